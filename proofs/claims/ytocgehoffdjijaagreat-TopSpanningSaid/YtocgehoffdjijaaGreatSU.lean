/- top: streets: slices.SortFunc of the streets' numbers, by the kit's contract (its laying printed by the kit's own tool); Plain law: parts that are joined: what is joined in the end, how many streets join, why these make no ring. No program in sight. -/
import Derived.Shelf.SlSortCmp.NoneTotal
import Derived.Sort.OwnSortedInts
import Derived.Test.YtocgehoffdjijaaGreatSB
import Derived.Test.YtocgehoffdjijaaGreatUpj
/- top: streets: slices.SortFunc of the streets' numbers, by the kit's contract (its laying printed by the kit's own tool). -/
namespace Go.Proofs.YtocgehoffdjijaaGreat
open Go.Shelf
def sortL_ren : Go.Shelf.Ren := ⟨fun | 6 => 136 | 15 => 117 | 14 => 171 | 28 => 155 | 29 => 156 | 20 => 184 | 21 => 185 | 22 => 186 | 23 => 187 | 24 => 188 | 25 => 189 | 26 => 190 | 27 => 191 | 46 => 195 | 47 => 175 | 48 => 176 | 49 => 196 | 50 => 197 | 57 => 199 | n => n, fun | 22 => 27 | 24 => 3 | 25 => 22 | 3 => 3 | 39 => 82 | 0 => 0 | 53 => 225 | 55 => 227 | 4 => 4 | 46 => 219 | 45 => 218 | 50 => 133 | 5 => 5 | 9 => 9 | 66 => 239 | 70 => 175 | 76 => 252 | 77 => 253 | n => n, fun | n => n⟩
theorem sortL : Go.Proofs.SlLaysF.n6 Tryz.prog sortL_ren := {
  mixed := by kernel_rfl
  f6 := ⟨ "slices.SortFunc[[]int,int]", by decide, Tryz.func136.trans (congrArg some (by kernel_rfl))⟩
  f14 := ⟨ "slices.pdqsortCmpFunc[int]", by decide, Tryz.func171.trans (congrArg some (by kernel_rfl))⟩
  f15 := Tryz.func117.trans (congrArg some (by kernel_rfl))
  f20 := ⟨ "slices.insertionSortCmpFunc[int]", by decide, Tryz.func184.trans (congrArg some (by kernel_rfl))⟩
  f21 := ⟨ "slices.heapSortCmpFunc[int]", by decide, Tryz.func185.trans (congrArg some (by kernel_rfl))⟩
  f22 := ⟨ "slices.breakPatternsCmpFunc[int]", by decide, Tryz.func186.trans (congrArg some (by kernel_rfl))⟩
  f23 := ⟨ "slices.choosePivotCmpFunc[int]", by decide, Tryz.func187.trans (congrArg some (by kernel_rfl))⟩
  f24 := ⟨ "slices.reverseRangeCmpFunc[int]", by decide, Tryz.func188.trans (congrArg some (by kernel_rfl))⟩
  f25 := ⟨ "slices.partialInsertionSortCmpFunc[int]", by decide, Tryz.func189.trans (congrArg some (by kernel_rfl))⟩
  f26 := ⟨ "slices.partitionEqualCmpFunc[int]", by decide, Tryz.func190.trans (congrArg some (by kernel_rfl))⟩
  f27 := ⟨ "slices.partitionCmpFunc[int]", by decide, Tryz.func191.trans (congrArg some (by kernel_rfl))⟩
  f28 := Tryz.func155.trans (congrArg some (by kernel_rfl))
  f29 := Tryz.func156.trans (congrArg some (by kernel_rfl))
  f46 := ⟨ "slices.siftDownCmpFunc[int]", by decide, Tryz.func195.trans (congrArg some (by kernel_rfl))⟩
  f47 := Tryz.func175.trans (congrArg some (by kernel_rfl))
  f48 := Tryz.func176.trans (congrArg some (by kernel_rfl))
  f49 := ⟨ "slices.medianAdjacentCmpFunc[int]", by decide, Tryz.func196.trans (congrArg some (by kernel_rfl))⟩
  f50 := ⟨ "slices.medianCmpFunc[int]", by decide, Tryz.func197.trans (congrArg some (by kernel_rfl))⟩
  f57 := ⟨ "slices.order2CmpFunc[int]", by decide, Tryz.func199.trans (congrArg some (by kernel_rfl))⟩
  t0 := Tryz.underlying0
  a0 := Tryz.isAgg0
  z0 := Tryz.sizeOf0
  v0 := Tryz.zeroValue0
  t3 := Tryz.underlying3
  a3 := Tryz.isAgg3
  z3 := Tryz.sizeOf3
  v3 := Tryz.zeroValue3
  t4 := Tryz.underlying4
  a4 := Tryz.isAgg4
  z4 := Tryz.sizeOf4
  v4 := Tryz.zeroValue4
  t5 := Tryz.underlying5
  a5 := Tryz.isAgg5
  z5 := Tryz.sizeOf5
  v5 := Tryz.zeroValue5
  t9 := Tryz.underlying9
  a9 := Tryz.isAgg9
  z9 := Tryz.sizeOf9
  v9 := Tryz.zeroValue9
  t22 := Tryz.underlying27
  a22 := Tryz.isAgg27
  z22 := Tryz.sizeOf27
  v22 := Tryz.zeroValue27
  a24 := Tryz.isAgg3
  z24 := Tryz.sizeOf3
  t25 := Tryz.underlying22
  a25 := Tryz.isAgg22
  z25 := Tryz.sizeOf22
  v25 := Tryz.zeroValue22
  t39 := Tryz.underlying82
  a39 := Tryz.isAgg82
  z39 := Tryz.sizeOf82
  v39 := Tryz.zeroValue82
  t45 := Tryz.underlying218
  a45 := Tryz.isAgg218
  z45 := Tryz.sizeOf218
  v45 := Tryz.zeroValue218
  t46 := Tryz.underlying219
  a46 := Tryz.isAgg219
  z46 := Tryz.sizeOf219
  v46 := Tryz.zeroValue219
  t50 := Tryz.underlying133
  a50 := Tryz.isAgg133
  z50 := Tryz.sizeOf133
  v50 := Tryz.zeroValue133
  t53 := Tryz.underlying225
  a53 := Tryz.isAgg225
  z53 := Tryz.sizeOf225
  v53 := Tryz.zeroValue225
  t55 := Tryz.underlying227
  a55 := Tryz.isAgg227
  z55 := Tryz.sizeOf227
  v55 := Tryz.zeroValue227
  t66 := Tryz.underlying239
  a66 := Tryz.isAgg239
  z66 := Tryz.sizeOf239
  v66 := Tryz.zeroValue239
  t70 := Tryz.underlying175
  a70 := Tryz.isAgg175
  z70 := Tryz.sizeOf175
  v70 := Tryz.zeroValue175
  t76 := Tryz.underlying252
  a76 := Tryz.isAgg252
  z76 := Tryz.sizeOf252
  v76 := Tryz.zeroValue252
  t77 := Tryz.underlying253
  a77 := Tryz.isAgg253
  z77 := Tryz.sizeOf253
  v77 := Tryz.zeroValue253 }
end Go.Proofs.YtocgehoffdjijaaGreat
namespace Go.Proofs.YtocgehoffdjijaaGreat
open Gv Go.Sort Go.Lib Go.RowKit
set_option maxRecDepth 20000
/-- '[]int{a, b}', with the very world behind it. -/
theorem r_buildS2x {P : Program} {K : Env → World → Prop} {ρ : Env} {w : World} {d : Nat} {t e ty : TypeId} {pos : String} {aft : Array Edge} {gd : Option (Nat × Bool)} {x1 x2 : Operand} {a1 a2 : Int} {by_ : Nat} (hi : elemI P t = some (e, .int .i64 0, 1, by_)) (hx1 : ev ρ x1 = .int .i64 a1) (hx2 : ev ρ x2 = .int .i64 a2)
    (h : K (up ρ d (.slice (some ⟨w.heap.size, 0, none⟩) 2 2)) (w.alloc (.cells #[.int .i64 a1, .int .i64 a2] e))) :
    w1 P false ⟨some d, .buildSlice t 2 #[(0, x1), (1, x2)], ty, pos, aft, gd⟩ K ρ w := by
  refine w1_val' (v := .slice (some ⟨w.heap.size, 0, none⟩) 2 2) (w' := w.alloc (.cells #[.int .i64 a1, .int .i64 a2] e)) ?_ h
  simp [execOp, hx1, hx2, run_buildSlice2 (u1 := .int .i64 a1) (u2 := .int .i64 a2) hi rfl rfl]
def cmpI (a b : Int) : Int := if a < b then -1 else if b < a then 1 else 0
def wgt (S : List N3) (k : Nat) : Nat := (st S k).2.2
/-- How two streets compare. -/
def cmpN (S : List N3) (x y : Nat) : Int := if cmpI (wgt S x) (wgt S y) ≠ 0 then cmpI (wgt S x) (wgt S y) else cmpI x y
theorem nan172' (a : Int) (w : World) : Calls Tryz.prog 172 #[.int .i64 a] w (Ret fun v w' => v = .bool false ∧ w' = w) := by
  refine calls_of_wc (args := [.int .i64 a]) Tryz.func172 rfl ?_ ?_; kernel_rfl
  repeat' (first|refine za ?_|refine zA ?_|refine zB ?_|refine zb ?_|refine zc ?_|refine ze ?_|refine zd ?_|refine zH ?_|refine zn ?_)
  all_goals first
    | (exfalso; omega)
    | (refine post1 (v := .bool false) rfl rfl ?_
       exact ⟨rfl, rfl⟩)
theorem cmp139v (a b : Int) (w : World) : Calls Tryz.prog 139 #[.int .i64 a, .int .i64 b] w (Ret fun v w' => v = .int .i64 (cmpI a b) ∧ w' = w) := by
  unfold cmpI
  refine calls_of_wc (args := [.int .i64 a, .int .i64 b]) Tryz.func139 rfl ?_ ?_; kernel_rfl
  repeat' (first|refine za ?_|refine zA ?_|refine zB ?_|refine zb ?_|refine zc ?_|refine ze ?_|refine zd ?_)
  (refine r_call_q (v := ?_) rfl ?_ ?_; rotate_left 1; focus exact nan172' a w)
  repeat' (first|refine za ?_|refine zA ?_|refine zB ?_|refine zb ?_|refine zc ?_|refine ze ?_|refine zd ?_)
  (refine r_call_q (v := ?_) rfl ?_ ?_; rotate_left 1; focus exact nan172' b w)
  repeat' (first|refine za ?_|refine zA ?_|refine zB ?_|refine zb ?_|refine zc ?_|refine ze ?_|refine zd ?_|refine zC ?_|refine zE ?_|refine zY ?_|refine zv (fun hcd => ?_) (fun hcd => ?_)|refine zk ?_|refine zn ?_|refine zf ?_)
  · refine post1 (v := .int .i64 (-1)) rfl rfl ?_
    exact ⟨by rw [if_pos (by omega)], rfl⟩
  · refine post1 (v := .int .i64 1) rfl rfl ?_
    exact ⟨by rw [if_neg (by omega), if_pos (by omega)], rfl⟩
  · refine post1 (v := .int .i64 0) rfl rfl ?_
    exact ⟨by rw [if_neg (by omega), if_neg (by omega)], rfl⟩
theorem first138 (g c : Nat) (a b : Int) (w : World) (h : Ints w (.slice (some ⟨g, 0, none⟩) 2 c) [a, b]) :
    Calls Tryz.prog 138 #[.slice (some ⟨g, 0, none⟩) 2 c] w (Ret fun v w' => v = .int .i64 (if a ≠ 0 then a else b) ∧ w' = w) := by
  refine calls_of_wc (args := [.slice (some ⟨g, 0, none⟩) 2 c]) Tryz.func138 rfl ?_ ?_; kernel_rfl
  repeat' (first|refine za ?_|refine zA ?_|refine zB ?_|refine zb ?_|refine zc ?_|refine ze ?_|refine zd ?_|refine zK ?_|refine zl ?_)
  refine wc_loop [5, 6] (fun (i : Nat) => [(2, .int .i64 0), (7, .int .i64 i)]) (fun i wk => wk = w ∧ i ≤ 2 ∧ (0 < i → a = 0) ∧ (1 < i → b = 0)) (fun i => 2 - i) 0 rfl ⟨rfl, rfl, trivial⟩ ⟨rfl, by omega, fun h => by omega, fun h => by omega⟩ ?_
  rintro i wk x ⟨rfl, hi, ha, hb⟩
  by_cases hin : i < 2
  · have hrd := h.rd (i := i) hin
    rcases (by omega : i = 0 ∨ i = 1) with rfl | rfl
    · change rd wk (pidx (some ⟨g, 0, none⟩) 0 1) = some (.int .i64 a) at hrd
      by_cases e : a = 0
      · repeat' (first|refine za ?_|refine zA ?_|refine zB ?_|refine zb ?_|refine zc ?_|refine ze ?_|refine zd ?_|refine zC ?_|refine zH ?_|refine zI ?_|refine zL ?_|refine zM ?_|refine zX ?_|refine zY ?_|refine zk ?_|refine zl ?_|refine zh ?_)
        exact ⟨1, ⟨rfl, rfl, trivial⟩, ⟨rfl, by omega, fun _ => e, fun h => by omega⟩, by omega⟩
      · repeat' (first|refine za ?_|refine zA ?_|refine zB ?_|refine zb ?_|refine zc ?_|refine ze ?_|refine zd ?_|refine zC ?_|refine zH ?_|refine zL ?_|refine zM ?_|refine zX ?_|refine zk ?_|refine zl ?_|refine zn ?_|refine zf ?_|refine zi ?_)
        refine post1 (v := .int .i64 a) rfl rfl ?_
        exact ⟨by rw [if_pos e], rfl⟩
    · change rd wk (pidx (some ⟨g, 0, none⟩) 1 1) = some (.int .i64 b) at hrd
      have e := ha (by omega)
      by_cases e2 : b = 0
      · repeat' (first|refine za ?_|refine zA ?_|refine zB ?_|refine zb ?_|refine zc ?_|refine ze ?_|refine zd ?_|refine zC ?_|refine zH ?_|refine zI ?_|refine zL ?_|refine zM ?_|refine zX ?_|refine zY ?_|refine zk ?_|refine zl ?_|refine zh ?_)
        exact ⟨2, ⟨rfl, rfl, trivial⟩, ⟨rfl, by omega, fun _ => e, fun h => e2⟩, by omega⟩
      · repeat' (first|refine za ?_|refine zA ?_|refine zB ?_|refine zb ?_|refine zc ?_|refine ze ?_|refine zd ?_|refine zC ?_|refine zH ?_|refine zL ?_|refine zM ?_|refine zX ?_|refine zk ?_|refine zl ?_|refine zn ?_|refine zf ?_|refine zi ?_)
        refine post1 (v := .int .i64 b) rfl rfl ?_
        exact ⟨by rw [if_neg (fun hh => hh e)], rfl⟩
  · repeat' (first|refine za ?_|refine zB ?_|refine zb ?_|refine zc ?_|refine ze ?_|refine zd ?_|refine zC ?_|refine zY ?_|refine zm ?_|refine zn ?_|refine zg ?_|refine zj ?_)
    refine post1 (v := .int .i64 0) rfl rfl ?_
    exact ⟨by rw [if_neg (fun hh => hh (ha (by omega))), hb (by omega)], rfl⟩
set_option maxHeartbeats 4000000 in
theorem cmp137 (n : Nat) (q : Option Addr) (c : Nat) (S : List N3) (b x y : Nat) (w : World) (h : Trip w (.slice q S.length c) S) (hb : Blk w b 117 (netV n q S.length c)) (hx : x < S.length) (hy : y < S.length) :
    Calls Tryz.prog 137 #[.int .i64 (x : Int), .int .i64 (y : Int), .pointer (some ⟨b, 0, none⟩)] w (Ret fun v w' => v = .int .i64 (cmpN S x y) ∧ ∃ o, w' = w.drew.alloc o) := by
  have hps := h.isSome (by omega)
  have gq : ∀ w', Ext w w' → rd w' (some ⟨b, 0 + 1, none⟩) = some (.slice q S.length c) := fun w' hE => (hb.ext hE).rd rfl
  have gx : ∀ w', Ext w w' → rd w' ((pidx q x 3).map fun a => a.add 2) = some (.int .i64 ((wgt S x : Nat) : Int)) := fun w' hE => ((h.ext hE).rd hx).2.2
  have gy : ∀ w', Ext w w' → rd w' ((pidx q y 3).map fun a => a.add 2) = some (.int .i64 ((wgt S y : Nat) : Int)) := fun w' hE => ((h.ext hE).rd hy).2.2
  refine calls_of_wc (args := [.int .i64 (x : Int), .int .i64 (y : Int), .pointer (some ⟨b, 0, none⟩)]) Tryz.func137 rfl ?_ ?_; kernel_rfl
  repeat' (first|refine za ?_|refine zB ?_|refine zb ?_|refine zc ?_|refine ze ?_|refine zd ?_)
  refine wc_heldB (fun w' => Ext w w') (.take 0 (.take 1 (.take 2 (.take 3 (.take 4 (.take 5 (.take 6 (.take 7 (.take 8 (.take 9 (.take 10 (.take 11 (.take 13 (.take 14 (.one 12 (.one 15 (.one 16 (.one 17 (.one 18 .done))))))))))))))))))) (by kernel_rfl) (by kernel_rfl) (Ext.drew w) ?_
  refine whB_take rfl rfl (fun w' hw' => rv_fa fo117_1 rfl) ?_
  refine whB_take rfl rfl (fun w' hw' => rv_ld ct58 rfl (gq w' hw')) ?_
  refine whB_take (v := .int .i64 (x : Int)) rfl rfl (fun w' hw' => rv_move_v rfl) ?_
  refine whB_take rfl rfl (fun w' hw' => rv_idx sz58 rfl rfl hps (by omega) (by omega)) ?_
  refine whB_take rfl rfl (fun w' hw' => rv_faQ fo60_2 rfl (pidx_isSome hps)) ?_
  refine whB_take rfl rfl (fun w' hw' => rv_ld ct3 rfl (gx w' hw')) ?_
  refine whB_take rfl rfl (fun w' hw' => rv_fa fo117_1 rfl) ?_
  refine whB_take rfl rfl (fun w' hw' => rv_ld ct58 rfl (gq w' hw')) ?_
  refine whB_take (v := .int .i64 (y : Int)) rfl rfl (fun w' hw' => rv_move_v rfl) ?_
  refine whB_take rfl rfl (fun w' hw' => rv_idx sz58 rfl rfl hps (by omega) (by omega)) ?_
  refine whB_take rfl rfl (fun w' hw' => rv_faQ fo60_2 rfl (pidx_isSome hps)) ?_
  refine whB_take rfl rfl (fun w' hw' => rv_ld ct3 rfl (gy w' hw')) ?_
  refine whB_take (v := .int .i64 (x : Int)) rfl rfl (fun w' hw' => rv_move_v rfl) ?_
  refine whB_take (v := .int .i64 (y : Int)) rfl rfl (fun w' hw' => rv_move_v rfl) ?_
  refine whB_one rfl rfl ?_
  (refine r_call_q (v := ?_) rfl ?_ ?_; rotate_left 1; focus exact cmp139v (wgt S x : Nat) (wgt S y : Nat) w.drew)
  refine ⟨Ext.drew w, whB_one rfl rfl ?_⟩
  (refine r_call_q (v := ?_) rfl ?_ ?_; rotate_left 1; focus exact cmp139v (x : Nat) (y : Nat) w.drew)
  refine ⟨Ext.drew w, whB_one rfl rfl ?_⟩
  refine r_buildS2x (a1 := cmpI (wgt S x) (wgt S y)) (a2 := cmpI x y) el27 rfl rfl ?_
  have hE : Ext w (w.drew.alloc (.cells #[.int .i64 (cmpI (wgt S x) (wgt S y)), .int .i64 (cmpI x y)] 3)) := (Ext.drew w).trans (Ch.alloc _ _)
  have hI : Ints (w.drew.alloc (.cells #[.int .i64 (cmpI (wgt S x) (wgt S y)), .int .i64 (cmpI x y)] 3)) (.slice (some ⟨w.drew.heap.size, 0, none⟩) 2 2) [cmpI (wgt S x) (wgt S y), cmpI x y] :=
    OwnI.ints (base := w.drew.heap.size) (e := 3) ⟨rfl, .inr ⟨w.drew.heap.size, 2, _, rfl, Nat.le_refl _, alloc_new w.drew _, Nat.le_refl _, by simp [maxLen], rfl, rfl⟩⟩
  refine ⟨hE, whB_one rfl rfl ?_⟩
  (refine r_call_q (v := ?_) rfl ?_ ?_; rotate_left 1; focus exact first138 w.drew.heap.size 2 _ _ _ hI)
  refine ⟨hE, whB_one rfl rfl ?_⟩
  refine r_assign_v (v := .int .i64 (cmpN S x y)) rfl ?_
  refine ⟨hE, whB_done ?_⟩
  repeat' (first|refine ze ?_|refine zn ?_)
  refine post1 (v := .int .i64 (cmpN S x y)) rfl rfl ?_
  exact ⟨rfl, _, rfl⟩
/- The sort itself. -/
section
variable {m : Nat}
/-- A street's number, as a value. -/
def encF (x : Fin (m + 1)) : Value := .int .i64 (x.val : Int)
def toI (d : Array (Fin (m + 1))) : List Int := d.toList.map fun x => (x.val : Int)
theorem putCells_fin (d : Array (Fin (m + 1))) (off : Nat) (c : Array Value) : putCells encF off d c = putCells (Value.int .i64) off (toI d).toArray c := by
  unfold putCells
  apply Array.ext
  · simp
  · intro i h1 h2
    simp only [Array.getElem_mapIdx]
    have hs : (toI d).toArray.size = d.size := by simp [toI]
    by_cases e : off ≤ i ∧ i < off + d.size
    · rw [if_pos e, if_pos (by rw [hs]; exact e)]
      have hi : i - off < d.size := by omega
      rw [getElem!_pos d (i - off) hi, getElem!_pos (toI d).toArray (i - off) (by rw [hs]; exact hi)]
      simp [encF, toI]
    · rw [if_neg e, if_neg (by rw [hs]; exact e)]
theorem putRow_fin (d : Array (Fin (m + 1))) (w : World) (blk off : Nat) : putRow encF w blk off d = putRow (Value.int .i64) w blk off (toI d).toArray := by
  unfold putRow
  congr 1
  funext c
  exact putCells_fin d off c
theorem sortWorld_fin (d : Array (Fin (m + 1))) (w : World) (blk off n : Nat) (os : Array Obj) : sortWorld encF w blk off n d os = grow (putRow (Value.int .i64) (Sort.ahead w n) blk off (toI d).toArray) os := by
  unfold sortWorld; rw [putRow_fin]
theorem sortWorld_ch (d : Array (Fin (m + 1))) (w : World) (blk n : Nat) (os : Array Obj) : Ch (fun k => k = blk) w (sortWorld encF w blk 0 n d os) := by
  rw [sortWorld_fin]
  exact Ch.grown (grownBy_sortedI _) fun k e => by injection e with e; exact e.symm
theorem cmpI_neg (a b : Int) : cmpI a b < 0 ↔ a < b := by unfold cmpI; split <;> (try split) <;> omega
theorem cmpI_zero (a b : Int) : cmpI a b = 0 ↔ a = b := by unfold cmpI; split <;> (try split) <;> omega
theorem cmpN_neg (S : List N3) (x y : Nat) : cmpN S x y < 0 ↔ wgt S x < wgt S y ∨ (wgt S x = wgt S y ∧ x < y) := by
  unfold cmpN
  have h1 := cmpI_neg (wgt S x) (wgt S y)
  have h2 := cmpI_zero (wgt S x) (wgt S y)
  have h3 := cmpI_neg x y
  by_cases e : cmpI (wgt S x) (wgt S y) = 0
  · rw [if_neg (fun h => h e)]
    have := h2.1 e
    omega
  · rw [if_pos e]
    have : ¬ ((wgt S x : Int) = wgt S y) := fun h => e (h2.2 h)
    omega
def cfS (S : List N3) (x y : Fin (m + 1)) : Int := cmpN S x.val y.val
theorem ltS (S : List N3) (x y : Fin (m + 1)) : ltOf (cfS S) x y = decide (wgt S x.val < wgt S y.val ∨ (wgt S x.val = wgt S y.val ∧ x.val < y.val)) := by
  unfold ltOf cfS; exact decide_eq_decide.2 (cmpN_neg S x.val y.val)
theorem swoS (S : List N3) : SWO (ltOf (cfS (m := m) S)) where
  irrefl x := by rw [ltS]; simp
  trans x y z h1 h2 := by rw [ltS] at *; simp only [decide_eq_true_eq] at *; omega
  ntrans x y z h1 h2 := by rw [ltS] at *; simp only [decide_eq_false_iff_not] at *; omega
theorem totS (S : List N3) (x y : Fin (m + 1)) (h1 : ltOf (cfS S) x y = false) (h2 : ltOf (cfS S) y x = false) : x = y := by
  rw [ltS] at h1 h2; simp only [decide_eq_false_iff_not] at h1 h2
  apply Fin.ext; omega
/-- The numbers of m + 1 streets, sorted. -/
def srtF (S : List N3) (m : Nat) : List (Fin (m + 1)) := (List.finRange (m + 1)).mergeSort fun x y => !(ltOf (cfS S) y x)
def srtO (S : List N3) : List Nat := match S.length with
  | 0 => []
  | m + 1 => (srtF S m).map fun x => x.val
theorem srtO_succ {S : List N3} {m : Nat} (hm : S.length = m + 1) : srtO S = (srtF S m).map fun x => x.val := by
  unfold srtO; split
  · omega
  · rename_i k hk
    obtain rfl : k = m := by omega
    rfl
theorem srt_perm (S : List N3) : (srtO S).Perm (List.range S.length) := by
  cases hS : S.length with
  | zero => unfold srtO; split; · exact List.Perm.refl _
            · omega
  | succ m =>
    rw [srtO_succ hS]
    have h1 : (srtF S m).Perm (List.finRange (m + 1)) := List.mergeSort_perm _ _
    have h2 := h1.map fun x : Fin (m + 1) => x.val
    have h3 : (List.finRange (m + 1)).map (fun x => x.val) = List.range (m + 1) := by
      apply List.ext_getElem
      · simp
      · intro i a b; simp
    rwa [h3] at h2
theorem srt_len (S : List N3) : (srtO S).length = S.length := by rw [(srt_perm S).length_eq, List.length_range]
theorem ni_fin (m : Nat) : toI (List.finRange (m + 1)).toArray = ni (List.range (m + 1)) := by
  unfold toI ni
  apply List.ext_getElem
  · simp
  · intro i a b; simp
theorem holds_fin {w : World} {g : Nat} {d : Array (Fin (m + 1))} (h : Holds (Value.int .i64) w g 0 (toI d).toArray) : Holds encF w g 0 d := by
  intro j hj
  have hs : (toI d).toArray.size = d.size := by simp [toI]
  have := h j (by rw [hs]; exact hj)
  rw [getElem!_pos (toI d).toArray j (by rw [hs]; exact hj)] at this
  rw [getElem!_pos d j hj]
  simpa [encF, toI] using this
set_option maxHeartbeats 1000000 in
theorem sort136 (n : Nat) (q : Option Addr) (c : Nat) (S : List N3) (hm : S.length = m + 1) (b g cap : Nat) (w0 w : World) (h : Trip w0 (.slice q S.length c) S) (hb : Blk w0 b 117 (netV n q S.length c)) (hE : Ext w0 w) (hO : OwnI w w0.heap.size 3 (.slice (some ⟨g, 0, none⟩) (m + 1) cap) (ni (List.range (m + 1)))) (hl : S.length < 1000000) :
    Calls Tryz.prog 136 #[.slice (some ⟨g, 0, none⟩) (m + 1) cap, .func (.func 137) #[] #[.pointer (some ⟨b, 0, none⟩)]] w (Ret fun _ w' => OwnI w' w0.heap.size 3 (.slice (some ⟨g, 0, none⟩) (m + 1) cap) (ni (srtO S)) ∧ w.grownBy w' (some g)) := by
  obtain ⟨d, hd⟩ : ∃ d, d = (List.finRange (m + 1)).toArray := ⟨_, rfl⟩
  have hds : d.size = m + 1 := by rw [hd]; simp
  have hdl : d.toList = List.finRange (m + 1) := by rw [hd]
  have htd : toI d = ni (List.range (m + 1)) := by rw [hd]; exact ni_fin m
  rcases hO.2 with ⟨hv, _⟩ | ⟨g', cap', cur, hv, hbg, hg, hnc, hcm, hcs, htk⟩
  · cases hv
  · have hln : (ni (List.range (m + 1))).length = m + 1 := by rw [ni_len, List.length_range]
    rw [hln] at hv hnc htk
    cases hv
    have hH : Holds encF w g 0 d := holds_fin (by
      rw [htd]
      exact holds_of_blockI hg (by rw [hln]; rw [Nat.mul_one] at htk; simpa [ints] using htk))
    have eg : ∀ args w, (callFunc 137 args).run Tryz.prog w = .ok (.enter 137 args) w := enters_of Tryz.func137 (by kernel_rfl) rfl
    have hcmp : CmpLays1 (α := Fin (m + 1)) Tryz.prog 137 #[.pointer (some ⟨b, 0, none⟩)] encF (cfS S) g 0 d.size w := by
      intro m' os dk hs x y
      have hch := sortWorld_ch dk w g m' os
      have hE' : Ext w0 (sortWorld encF w g 0 m' dk os) := Ch.trans' hE hch fun k hk e => by omega
      have := cmp137 n q c S b x.val y.val _ (h.ext hE') (hb.ext hE') (by have := x.isLt; omega) (by have := y.isLt; omega)
      refine Calls.mono this ?_
      rintro e w' ⟨v, rfl, rfl, o, rfl⟩
      exact ⟨rfl, 1, #[o], rfl⟩
    have hS := Any.slices_SortFunc_total sortL encF (fun _ => rfl) (cfS S) (swoS S) 137 #[.pointer (some ⟨b, 0, none⟩)] g 0 cap d w eg hcmp hH (Array.getElem?_eq_some_iff.1 hg).1 (by omega) (totS S)
    rw [hds, hdl] at hS
    change Calls Tryz.prog 136 _ _ _ at hS
    refine Calls.mono hS ?_
    rintro e w' ⟨rfl, n', os, rfl⟩
    refine ⟨_, rfl, ?_, ?_⟩
    · rw [sortWorld_fin]
      have e1 : toI ((List.finRange (m + 1)).mergeSort fun x y => !(ltOf (cfS S) y x)).toArray = ni (srtO S) := by
        rw [srtO_succ hm]; unfold toI ni srtF; rw [List.map_map]; rfl
      rw [e1]
      have hls : (ni (srtO S)).length = (ni (List.range (m + 1))).length := by rw [ni_len, srt_len, hm, hln]
      have := ownsRow_sortedI (n := n') (os := os) (ss := ni (List.range (m + 1))) (ts := ni (srtO S)) hls hbg hg (by rw [hln]; exact hnc) hcm hcs
      unfold OwnI
      rw [hln] at this hls
      rw [hls]
      exact this
    · rw [sortWorld_fin]; exact grownBy_sortedI _
end
set_option maxHeartbeats 2000000 in
theorem ordered_any (S : List N3) (h1 : 1 ≤ S.length) (h2 : S.length ≤ 1000) : OrdOf S (srtO S) := by
  intro n q c w h
  obtain ⟨m, hm⟩ : ∃ m, S.length = m + 1 := ⟨S.length - 1, by omega⟩
  refine calls_of_wc (args := [.agg (netV n q S.length c).toArray]) Tryz.func103 rfl ?_ ?_; kernel_rfl
  repeat' (first|refine za ?_|refine zc ?_|refine zd ?_)
  refine r_boxN (cells := netV n q S.length c) rfl fun w1 hb1 hE1 hs1 => ?_
  obtain ⟨b1, eb1⟩ : ∃ b, b = w.heap.size := ⟨_, rfl⟩
  rw [← eb1] at hb1 ⊢
  have gq : rd w1 (some ⟨b1, 0 + 1, none⟩) = some (.slice q S.length c) := hb1.rd rfl
  repeat' (first|refine za ?_|refine zB ?_|refine zb ?_|refine zc ?_|refine ze ?_|refine zd ?_)
  refine r_fa fo117_1 rfl ?_
  repeat' (first|refine za ?_|refine zA ?_|refine zb ?_|refine ze ?_|refine zK ?_|refine zM ?_|refine zl ?_)
  refine wc_loop2 [1, 7] (fun (i : Nat) (v : Value) => [(3, v), (8, .int .i64 i)]) (fun i v wk => i ≤ S.length ∧ OwnI wk w1.heap.size 3 v (ni (List.range i)) ∧ Ext w1 wk) (fun i _ => S.length - i) 0 (.slice none 0 0) rfl ⟨rfl, rfl, trivial⟩ ⟨by omega, World.ownsRow_nil _ _ _ _, Ext.refl _⟩ ?_
  rintro i v wk x ⟨hi, hvk, hEk⟩
  obtain ⟨qv, cv, rfl, hqv⟩ := hvk.ints.slice
  have hli : (ni (List.range i)).length = i := by rw [ni_len, List.length_range]
  by_cases hin : i < S.length
  · repeat' (first|refine za ?_|refine zA ?_|refine zB ?_|refine zb ?_|refine zc ?_|refine ze ?_|refine zd ?_|refine zC ?_|refine zX ?_|refine zk ?_|refine zl ?_)
    refine r_append1_i (a := (i : Int)) el27 hvk rfl rfl (by omega) hEk.size fun v' w6 qx h6 hG hne6 hgb => ?_
    have e1 : ni (List.range i) ++ [(i : Int)] = ni (List.range (i + 1)) := by unfold ni; rw [List.range_succ, List.map_append]; rfl
    rw [e1] at h6
    repeat' (first|refine za ?_|refine zA ?_|refine zB ?_|refine zb ?_|refine ze ?_|refine zd ?_|refine zI ?_|refine zh ?_)
    exact ⟨i + 1, v', ⟨rfl, rfl, trivial⟩, ⟨by omega, h6, Ch.trans' hEk (Ch.grown hG fun k e => e) fun g hg e => by have := (hvk.lt g e).1; omega⟩, by omega⟩
  · obtain rfl : i = S.length := by omega
    have hvk' := hvk
    rcases hvk.2 with ⟨hv, _⟩ | ⟨g, cap, cur, hv, hbg, hg, hnc, hcm, hcs, htk⟩
    · injection hv with _ e2 _; omega
    rw [hli] at hv
    have hqg : qv = some ⟨g, 0, none⟩ ∧ cv = cap := by injection hv with e1 e2 e3; exact ⟨by rw [hli] at *; exact e1, e3⟩
    obtain ⟨rfl, rfl⟩ := hqg
    rw [hli] at hvk' ⊢
    repeat' (first|refine za ?_|refine zA ?_|refine zb ?_|refine zc ?_|refine ze ?_|refine zd ?_|refine zC ?_|refine zY ?_|refine zm ?_|refine zg ?_|refine zj ?_)
    refine r_mkfn (as_ := []) (bs := [.tmp 1]) ?_
    repeat' (refine za ?_)
    have hsrt := sort136 n q c S hm b1 g cv w1 wk (h.ext hE1) hb1 hEk (by rw [← hm]; exact hvk') (by omega)
    rw [← hm] at hsrt
    (refine r_call (R := ?_) rfl ?_ ?_; rotate_left 1; focus exact hsrt)
    rintro _ w7 ⟨hO7, hG7⟩
    have hE7 : Ext w1 w7 := Ch.trans' hEk (Ch.grown hG7 (S := fun k => w1.heap.size ≤ k) fun k e => by injection e with e; omega) fun k hk e => by omega
    repeat' (first|refine za ?_|refine zA ?_|refine zB ?_|refine zb ?_|refine zc ?_|refine ze ?_|refine zd ?_|refine zn ?_)
    refine post1 (v := .slice (some ⟨g, 0, none⟩) S.length cv) rfl rfl ?_
    exact ⟨ownsRow_mono hO7 (by omega), hE1.trans hE7⟩
end Go.Proofs.YtocgehoffdjijaaGreat
/- Plain law: parts that are joined: what is joined in the end, how many streets join, why these make no ring. No program in sight. -/
namespace Go.Proofs.YtocgehoffdjijaaGreat
open Gv
set_option maxRecDepth 20000
theorem countP_2 {α : Type} {p q r : α → Bool} : ∀ {l : List α}, (∀ x ∈ l, p x = true → r x = true) → (∀ x ∈ l, q x = true → r x = true) → (∀ x ∈ l, ¬ (p x = true ∧ q x = true)) → l.countP p + l.countP q ≤ l.countP r
  | [], _, _, _ => by simp
  | a :: l, h1, h2, h3 => by
    have ih := countP_2 (l := l) (fun x hx => h1 x (by simp [hx])) (fun x hx => h2 x (by simp [hx])) (fun x hx => h3 x (by simp [hx]))
    have a1 := h1 a (by simp)
    have a2 := h2 a (by simp)
    have a3 := h3 a (by simp)
    simp only [List.countP_cons]
    cases hp : p a <;> cases hq : q a <;> cases hr : r a <;> simp_all <;> omega
theorem ofU_b {U : List Nat} (h : Par U) {v : Nat} (hv : v < 16) : ofU U v < 16 := by have := (ofU_lt h hv).1; omega
theorem ofU_root {U : List Nat} (h : Par U) {v : Nat} (hv : v < 16) : ofU U (ofU U v) = ofU U v := ofU_here (ofU_lt h hv).2
theorem joU_get {U : List Nat} {a b v : Nat} (hM : max (ofU U a) (ofU U b) < U.length) : (joU U a b).getD v 0 = if v = max (ofU U a) (ofU U b) then min (ofU U a) (ofU U b) else U.getD v 0 := by
  unfold joU
  by_cases e : v = max (ofU U a) (ofU U b)
  · rw [if_pos e, e, List.getD_eq_getElem?_getD, List.getElem?_set_self hM]; rfl
  · rw [if_neg e, List.getD_eq_getElem?_getD, List.getElem?_set_ne (Ne.symm e), ← List.getD_eq_getElem?_getD]
theorem ofU_joU {U : List Nat} (h : Par U) {a b : Nat} (ha : a < 16) (hb : b < 16) : ∀ v, v < 16 → ofU (joU U a b) v = if ofU U v = max (ofU U a) (ofU U b) then min (ofU U a) (ofU U b) else ofU U v := by
  have hA := ofU_b h ha
  have hB := ofU_b h hb
  have hl := h.len
  have hg := fun v => joU_get (U := U) (a := a) (b := b) (v := v) (by omega)
  have rA := (ofU_lt h ha).2
  have rB := (ofU_lt h hb).2
  have hP := joU_par h a b
  obtain ⟨A, hA'⟩ : ∃ A, A = ofU U a := ⟨_, rfl⟩
  obtain ⟨B, hB'⟩ : ∃ B, B = ofU U b := ⟨_, rfl⟩
  rw [← hA'] at hA rA hg
  rw [← hB'] at hB rB hg
  simp only [← hA', ← hB'] at hg ⊢
  have rM : U.getD (max A B) 0 = max A B := by rcases Nat.le_total A B with h1 | h1 <;> simp only [h1, Nat.max_eq_left, Nat.max_eq_right] <;> assumption
  have rm : U.getD (min A B) 0 = min A B := by rcases Nat.le_total A B with h1 | h1 <;> simp only [h1, Nat.min_eq_left, Nat.min_eq_right] <;> assumption
  intro v
  induction v using Nat.strongRecOn with
  | _ v ih =>
    intro hv
    by_cases hroot : U.getD v 0 = v
    · rw [ofU_here hroot]
      by_cases e : v = max A B
      · rw [if_pos e]
        by_cases e2 : min A B = max A B
        · rw [e2, ← e]; exact ofU_here (by rw [hg, if_pos e, e2, e])
        · rw [ofU_up hP hv (by rw [hg, if_pos e, e]; exact e2), hg, if_pos e]
          exact ofU_here (by rw [hg, if_neg e2, rm])
      · rw [if_neg e]; exact ofU_here (by rw [hg, if_neg e]; exact hroot)
    · have e : v ≠ max A B := fun e => hroot (by rw [e]; exact rM)
      have hle := h.le v hv
      rw [ofU_up hP hv (by rw [hg, if_neg e]; exact hroot), hg, if_neg e, ih _ (by omega) (by omega), ofU_up h hv hroot]
section
variable {n : Nat} {S : List N3} {O : List Nat}
/-- For whom a vertex stands behind so many streets. -/
def rt (S : List N3) (O : List Nat) (k v : Nat) : Nat := ofU (jst S O k).1 v
def eA (S : List N3) (O : List Nat) (k : Nat) : Nat := (st S (O.getD k 0)).1
def eB (S : List N3) (O : List Nat) (k : Nat) : Nat := (st S (O.getD k 0)).2.1
structure OrdN (n : Nat) (S : List N3) (O : List Nat) : Prop where
  net : NetOk n S
  lt : ∀ i, i < O.length → O.getD i 0 < S.length
theorem OrdN.ab (h : OrdN n S O) {k : Nat} (hk : k < O.length) : eA S O k < n ∧ eB S O k < n ∧ eA S O k ≠ eB S O k := by
  obtain ⟨h1, h2, h3, _⟩ := h.net.ok _ (h.lt k hk)
  exact ⟨h1, h2, h3⟩
theorem OrdN.par (h : OrdN n S O) {k : Nat} (hk : k ≤ O.length) : Par (jst S O k).1 := jst_par h.net h.lt k hk
theorem rt_zero {v : Nat} (hv : v < 16) : rt S O 0 v = v := by
  have : ∀ v, v < 16 → ofU (List.range 16) v = v := by decide +kernel
  exact this v hv
theorem rt_succ (h : OrdN n S O) {k : Nat} (hk : k < O.length) {v : Nat} (hv : v < 16) : rt S O (k + 1) v = if rt S O k v = max (rt S O k (eA S O k)) (rt S O k (eB S O k)) then min (rt S O k (eA S O k)) (rt S O k (eB S O k)) else rt S O k v := by
  have h1 := h.ab hk
  have h2 := h.net.n16
  exact ofU_joU (h.par (by omega)) (by unfold eA at h1; omega) (by unfold eB at h1; omega) v hv
theorem rt_le (h : OrdN n S O) {k : Nat} (hk : k ≤ O.length) {v : Nat} (hv : v < 16) : rt S O k v ≤ v := (ofU_lt (h.par hk) hv).1
theorem rt_idem (h : OrdN n S O) {k : Nat} (hk : k ≤ O.length) {v : Nat} (hv : v < 16) : rt S O k (rt S O k v) = rt S O k v := ofU_root (h.par hk) hv
theorem rt_keep (h : OrdN n S O) {k : Nat} (hk : k < O.length) {x y : Nat} (hx : x < 16) (hy : y < 16) (e : rt S O k x = rt S O k y) : rt S O (k + 1) x = rt S O (k + 1) y := by
  rw [rt_succ h hk hx, rt_succ h hk hy, e]
theorem rt_edge (h : OrdN n S O) {k : Nat} (hk : k < O.length) : rt S O (k + 1) (eA S O k) = rt S O (k + 1) (eB S O k) := by
  have h1 := h.ab hk
  have h2 := h.net.n16
  rw [rt_succ h hk (by omega), rt_succ h hk (by omega)]
  split <;> split <;> omega
theorem rt_edges (h : OrdN n S O) : ∀ {k : Nat}, k ≤ O.length → ∀ i, i < k → rt S O k (eA S O i) = rt S O k (eB S O i)
  | 0, _, i, hi => by omega
  | k + 1, hk, i, hi => by
    have h2 := h.net.n16
    have h1 := h.ab (k := i) (by omega)
    by_cases e : i = k
    · subst e; exact rt_edge h (by omega)
    · exact rt_keep h (by omega) (by omega) (by omega) (rt_edges h (k := k) (by omega) i (by omega))
/-- Each vertex but the first one is joined to one before it. -/
def Linked (n : Nat) (S : List N3) : Prop := ∀ v, 1 ≤ v → v < n → ∃ k, k < S.length ∧ ∃ u, u < v ∧ (((st S k).1 = u ∧ (st S k).2.1 = v) ∨ ((st S k).1 = v ∧ (st S k).2.1 = u))
theorem rt_all (h : OrdN n S O) (hp : O.Perm (List.range S.length)) (hl : Linked n S) : ∀ v, v < n → rt S O O.length v = 0 := by
  have h2 := h.net.n16
  intro v
  induction v using Nat.strongRecOn with
  | _ v ih =>
    intro hv
    by_cases e : v = 0
    · subst e; have := rt_le h (Nat.le_refl _) (v := 0) (by omega); omega
    · obtain ⟨k, hk, u, hu, hk2⟩ := hl v (by omega) hv
      have hm : k ∈ O := hp.mem_iff.2 (by simpa using hk)
      obtain ⟨i, hi, hik⟩ := List.getElem_of_mem hm
      have hi' : O.getD i 0 = k := by simp [List.getD, hi, hik]
      have h3 := rt_edges h (Nat.le_refl _) i hi
      unfold eA eB at h3
      rw [hi'] at h3
      have h4 := ih u hu (by omega)
      rcases hk2 with ⟨e1, e2⟩ | ⟨e1, e2⟩
      · rw [e1, e2] at h3; omega
      · rw [e1, e2] at h3; omega
/-- Whether a street joined two parts. -/
def jn (S : List N3) (O : List Nat) (k : Nat) : Prop := rt S O k (eA S O k) ≠ rt S O k (eB S O k)
instance (S : List N3) (O : List Nat) (k : Nat) : Decidable (jn S O k) := by unfold jn; infer_instance
theorem jst_cnt (S : List N3) (O : List Nat) (k : Nat) : (jst S O (k + 1)).2 = (jst S O k).2 + if jn S O k then 1 else 0 := by
  show (if rt S O k (eA S O k) = rt S O k (eB S O k) then (jst S O k).2 else (jst S O k).2 + 1) = _
  by_cases e : rt S O k (eA S O k) = rt S O k (eB S O k)
  · rw [if_pos e, if_neg (show ¬ jn S O k from fun h => h e)]; rfl
  · rw [if_neg e, if_pos (show jn S O k from e)]
theorem tst_succ (S : List N3) (O : List Nat) (k : Nat) : tst S O (k + 1) = if jn S O k then tst S O k ++ [O.getD k 0] else tst S O k := by
  show (if rt S O k (eA S O k) = rt S O k (eB S O k) then tst S O k else tst S O k ++ [O.getD k 0]) = _
  by_cases e : rt S O k (eA S O k) = rt S O k (eB S O k)
  · rw [if_pos e, if_neg (show ¬ jn S O k from fun h => h e)]
  · rw [if_neg e, if_pos (show jn S O k from e)]
/-- How many stand for themselves. -/
def nrt (n : Nat) (S : List N3) (O : List Nat) (k : Nat) : Nat := (List.range n).countP fun v => decide (rt S O k v = v)
theorem cnt_nrt (h : OrdN n S O) : ∀ {k : Nat}, k ≤ O.length → (jst S O k).2 + nrt n S O k = n
  | 0, _ => by
    have h2 := h.net.n16
    have : nrt n S O 0 = n := by
      unfold nrt
      rw [List.countP_eq_length.2]
      · simp
      · intro v hv
        exact decide_eq_true (rt_zero (by have : v < n := by simpa using hv
                                          omega))
    rw [this]; show 0 + n = n; omega
  | k + 1, hk => by
    have ih := cnt_nrt h (k := k) (by omega)
    have h2 := h.net.n16
    obtain ⟨ha, hb, _⟩ := h.ab (k := k) (by omega)
    have la := rt_le h (k := k) (by omega) (v := eA S O k) (by omega)
    have lb := rt_le h (k := k) (by omega) (v := eB S O k) (by omega)
    have ia := rt_idem h (k := k) (by omega) (v := eA S O k) (by omega)
    have ib := rt_idem h (k := k) (by omega) (v := eB S O k) (by omega)
    rw [jst_cnt]
    by_cases e : jn S O k
    · rw [if_pos e]
      unfold jn at e
      obtain ⟨M, hM⟩ : ∃ M, M = max (rt S O k (eA S O k)) (rt S O k (eB S O k)) := ⟨_, rfl⟩
      have hMn : M < n := by omega
      have hMr : rt S O k M = M := by
        rcases Nat.le_total (rt S O k (eA S O k)) (rt S O k (eB S O k)) with hh | hh
        · rw [show M = rt S O k (eB S O k) by omega]; exact ib
        · rw [show M = rt S O k (eA S O k) by omega]; exact ia
      have key : nrt n S O (k + 1) + 1 = nrt n S O k := by
        unfold nrt
        have e1 : (List.range n).countP (fun v => decide (rt S O k v = v)) = (List.range n).countP (fun v => decide (rt S O k v = v) && decide (v ≠ M)) + (List.range n).countP (fun v => decide (v = M)) := by
          have hgen : ∀ (p : Nat → Bool) (l : List Nat), p M = true → l.countP p = l.countP (fun v => p v && decide (v ≠ M)) + l.countP (fun v => decide (v = M)) := by
            intro p l hp
            induction l with
            | nil => rfl
            | cons x l ihl =>
              simp only [List.countP_cons, ihl]
              by_cases ex : x = M
              · subst ex; simp [hp]; omega
              · simp [ex]; omega
          exact hgen _ _ (decide_eq_true hMr)
        have e2 : (List.range n).countP (fun v => decide (v = M)) = 1 := by
          have : (List.range n).countP (fun v => decide (v = M)) = (List.range n).count M := by
            unfold List.count; congr 1
          rw [this, List.nodup_range.count]; simp [hMn]
        rw [e1, e2]
        congr 1
        refine List.countP_congr fun v hv => ?_
        have hv' : v < n := by simpa using hv
        rw [rt_succ h (by omega) (by omega), ← hM]
        simp only [Bool.and_eq_true, decide_eq_true_eq]
        have hlv := rt_le h (k := k) (by omega) (v := v) (by omega)
        split
        · rename_i e3; constructor
          · intro h5; exfalso; omega
          · rintro ⟨h5, h6⟩; exfalso; omega
        · rename_i e3; constructor
          · intro h5; exact ⟨h5, fun h6 => e3 (by rw [h6]; exact hMr)⟩
          · exact fun h5 => h5.1
      omega
    · rw [if_neg e]
      have : nrt n S O (k + 1) = nrt n S O k := by
        unfold nrt
        refine List.countP_congr fun v hv => ?_
        have hv' : v < n := by simpa using hv
        rw [rt_succ h (by omega) (by omega)]
        unfold jn at e
        have e' : rt S O k (eA S O k) = rt S O k (eB S O k) := Decidable.of_not_not e
        rw [e', Nat.max_self, Nat.min_self]
        split
        · rename_i e3; rw [e3]
        · exact Iff.rfl
      omega
theorem cnt_all (h : OrdN n S O) (hp : O.Perm (List.range S.length)) (hl : Linked n S) : (jst S O O.length).2 + 1 = n := by
  have h1 := cnt_nrt h (Nat.le_refl _)
  have h2 := rt_all h hp hl
  have h3 : nrt n S O O.length = 1 := by
    unfold nrt
    have e1 : (List.range n).countP (fun v => decide (rt S O O.length v = v)) = (List.range n).count 0 := by
      unfold List.count
      refine List.countP_congr fun v hv => ?_
      have hv' : v < n := by simpa using hv
      rw [h2 v hv']; simp only [decide_eq_true_eq, beq_iff_eq]; exact eq_comm
    rw [e1, List.nodup_range.count]
    have := h.net.n1
    simp; omega
  omega
/-- Both ends of a street lie in a set. -/
def inE (S : List N3) (X : List Nat) (s : Nat) : Prop := (st S s).1 ∈ X ∧ (st S s).2.1 ∈ X
instance (S : List N3) (X : List Nat) (s : Nat) : Decidable (inE S X s) := by unfold inE; infer_instance
/-- The parts that the taken streets within a set make. -/
def lab (S : List N3) (O X : List Nat) : Nat → Nat → Nat
  | 0 => fun v => v
  | k + 1 => if jn S O k ∧ inE S X (O.getD k 0) then fun v => if lab S O X k v = lab S O X k (eA S O k) then lab S O X k (eB S O k) else lab S O X k v else lab S O X k
theorem lab_succ (S : List N3) (O X : List Nat) (k v : Nat) : lab S O X (k + 1) v = if jn S O k ∧ inE S X (O.getD k 0) then (if lab S O X k v = lab S O X k (eA S O k) then lab S O X k (eB S O k) else lab S O X k v) else lab S O X k v := by
  simp only [lab]; split <;> rfl
theorem lab_lt (h : OrdN n S O) {X : List Nat} : ∀ {k : Nat}, k ≤ O.length → ∀ v, v < 16 → lab S O X k v < 16
  | 0, _, v, hv => hv
  | k + 1, hk, v, hv => by
    have ih := lab_lt h (X := X) (k := k) (by omega)
    have h1 := h.ab (k := k) (by omega)
    have h2 := h.net.n16
    rw [lab_succ]
    split
    · split
      · exact ih _ (by omega)
      · exact ih _ hv
    · exact ih _ hv
theorem lab_fine (h : OrdN n S O) {X : List Nat} : ∀ {k : Nat}, k ≤ O.length → ∀ x y, x < 16 → y < 16 → lab S O X k x = lab S O X k y → rt S O k x = rt S O k y
  | 0, _, x, y, _, _, e => by
    have e' : x = y := e
    rw [e']
  | k + 1, hk, x, y, hx, hy, e => by
    have ih := lab_fine h (X := X) (k := k) (by omega)
    obtain ⟨ha, hb, _⟩ := h.ab (k := k) (by omega)
    have h2 := h.net.n16
    have hed := rt_edge h (k := k) (by omega)
    rw [lab_succ, lab_succ] at e
    by_cases c : jn S O k ∧ inE S X (O.getD k 0)
    · rw [if_pos c, if_pos c] at e
      by_cases ex : lab S O X k x = lab S O X k (eA S O k)
      · have hxa := rt_keep h (k := k) (by omega) hx (by omega) (ih _ _ hx (by omega) ex)
        rw [if_pos ex] at e
        by_cases ey : lab S O X k y = lab S O X k (eA S O k)
        · have hya := rt_keep h (k := k) (by omega) hy (by omega) (ih _ _ hy (by omega) ey)
          rw [hxa, hya]
        · rw [if_neg ey] at e
          have hyb := rt_keep h (k := k) (by omega) (by omega) hy (ih _ _ (by omega) hy e)
          rw [hxa, ← hyb, hed]
      · rw [if_neg ex] at e
        by_cases ey : lab S O X k y = lab S O X k (eA S O k)
        · have hya := rt_keep h (k := k) (by omega) hy (by omega) (ih _ _ hy (by omega) ey)
          rw [if_pos ey] at e
          have hxb := rt_keep h (k := k) (by omega) hx (by omega) (ih _ _ hx (by omega) e)
          rw [hxb, hya, hed]
        · rw [if_neg ey] at e
          exact rt_keep h (by omega) hx hy (ih _ _ hx hy e)
    · rw [if_neg c, if_neg c] at e
      exact rt_keep h (by omega) hx hy (ih _ _ hx hy e)
def nlab (S : List N3) (O X : List Nat) (k : Nat) : Nat := (List.range 16).countP fun r => decide (r ∈ X.map (lab S O X k))
theorem countP_or {p q r : Nat → Bool} (h : ∀ x, r x = true → p x = true ∨ q x = true) : ∀ l : List Nat, l.countP r ≤ l.countP p + l.countP q
  | [] => by simp
  | a :: l => by
    have ih := countP_or h l
    have := h a
    simp only [List.countP_cons]
    cases hr : r a <;> cases hp : p a <;> cases hq : q a <;> simp_all <;> omega
theorem cnt_mem : ∀ (Y : List Nat), (List.range 16).countP (fun r => decide (r ∈ Y)) ≤ Y.length
  | [] => by simp
  | y :: Y => by
    have ih := cnt_mem Y
    have h1 := countP_or (p := fun r => r == y) (q := fun r => decide (r ∈ Y)) (r := fun r => decide (r ∈ y :: Y)) (fun x hx => by
      have := of_decide_eq_true hx
      rcases List.mem_cons.1 this with e | e
      · exact .inl (by simp [e])
      · exact .inr (decide_eq_true e)) (List.range 16)
    have h3 : (List.range 16).count y ≤ 1 := List.nodup_iff_count.1 List.nodup_range y
    unfold List.count at h3
    simp only [List.length_cons]; omega
/-- The taken streets within a set make no ring. -/
theorem forest (h : OrdN n S O) {X : List Nat} (hX : ∀ v, v ∈ X → v < n) : ∀ {k : Nat}, k ≤ O.length → (tst S O k).countP (fun s => decide (inE S X s)) + nlab S O X k ≤ X.length
  | 0, _ => by
    have := cnt_mem (X.map (lab S O X 0))
    rw [List.length_map] at this
    show 0 + nlab S O X 0 ≤ _
    unfold nlab; omega
  | k + 1, hk => by
    have ih := forest h hX (k := k) (by omega)
    obtain ⟨ha, hb, _⟩ := h.ab (k := k) (by omega)
    have h2 := h.net.n16
    rw [tst_succ]
    by_cases hj : jn S O k
    · rw [if_pos hj, List.countP_append]
      by_cases hi : inE S X (O.getD k 0)
      · have hne : lab S O X k (eA S O k) ≠ lab S O X k (eB S O k) := fun e => hj (lab_fine h (by omega) _ _ (by omega) (by omega) e)
        have hl : nlab S O X (k + 1) + 1 ≤ nlab S O X k := by
          unfold nlab
          have h5 := countP_2 (l := List.range 16) (p := fun r => decide (r ∈ X.map (lab S O X (k + 1)))) (q := fun r => decide (r = lab S O X k (eA S O k))) (r := fun r => decide (r ∈ X.map (lab S O X k)))
            (fun r _ hp => by
              obtain ⟨v, hv, e⟩ := List.mem_map.1 (of_decide_eq_true hp)
              rw [lab_succ, if_pos ⟨hj, hi⟩] at e
              refine decide_eq_true (List.mem_map.2 ?_)
              by_cases e2 : lab S O X k v = lab S O X k (eA S O k)
              · rw [if_pos e2] at e; exact ⟨eB S O k, hi.2, e⟩
              · rw [if_neg e2] at e; exact ⟨v, hv, e⟩)
            (fun r _ hq => by
              have e := of_decide_eq_true hq
              exact decide_eq_true (List.mem_map.2 ⟨eA S O k, hi.1, e.symm⟩))
            (fun r _ hpq => by
              obtain ⟨v, hv, e⟩ := List.mem_map.1 (of_decide_eq_true hpq.1)
              have e3 := of_decide_eq_true hpq.2
              rw [lab_succ, if_pos ⟨hj, hi⟩] at e
              by_cases e2 : lab S O X k v = lab S O X k (eA S O k)
              · rw [if_pos e2] at e; exact hne (by rw [e, e3])
              · rw [if_neg e2] at e; exact e2 (by rw [e, e3]))
          have h6 : 1 ≤ (List.range 16).countP fun r => decide (r = lab S O X k (eA S O k)) := List.countP_pos_iff.2 ⟨lab S O X k (eA S O k), by simpa using lab_lt h (X := X) (k := k) (by omega) _ (by omega), by simp⟩
          omega
        have : ([O.getD k 0] : List Nat).countP (fun s => decide (inE S X s)) = 1 := by simp only [List.countP_cons, List.countP_nil]; rw [if_pos (decide_eq_true hi)]
        omega
      · have : ([O.getD k 0] : List Nat).countP (fun s => decide (inE S X s)) = 0 := by simp only [List.countP_cons, List.countP_nil]; rw [if_neg (by rw [decide_eq_false hi]; decide)]
        have e : ∀ v, lab S O X (k + 1) v = lab S O X k v := fun v => by rw [lab_succ, if_neg fun hh => hi hh.2]
        have e2 : nlab S O X (k + 1) = nlab S O X k := by
          unfold nlab
          rw [show lab S O X (k + 1) = lab S O X k from funext e]
        omega
    · rw [if_neg hj]
      have e : ∀ v, lab S O X (k + 1) v = lab S O X k v := fun v => by rw [lab_succ, if_neg fun hh => hj hh.1]
      have e2 : nlab S O X (k + 1) = nlab S O X k := by
        unfold nlab
        rw [show lab S O X (k + 1) = lab S O X k from funext e]
      omega
theorem forest_lt (h : OrdN n S O) {X : List Nat} (hX : ∀ v, v ∈ X → v < n) (h0 : X ≠ []) : (tst S O O.length).countP (fun s => decide (inE S X s)) + 1 ≤ X.length := by
  have h1 := forest h hX (Nat.le_refl _)
  have h2 := h.net.n16
  obtain ⟨x, hx⟩ := List.exists_mem_of_ne_nil X h0
  have h3 : 1 ≤ nlab S O X O.length := List.countP_pos_iff.2 ⟨lab S O X O.length x, by simpa using lab_lt h (X := X) (Nat.le_refl _) x (by have := hX x hx; omega), decide_eq_true (List.mem_map.2 ⟨x, hx, rfl⟩)⟩
  omega
end
end Go.Proofs.YtocgehoffdjijaaGreat
