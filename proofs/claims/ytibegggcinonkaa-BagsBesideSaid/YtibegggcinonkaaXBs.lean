/- The law BagsBeside, walked: it answers true for every input. -/
import Derived.Test.YtibegggcinonkaaPk
import Derived.Test.YtibegggcinonkaaPBs
import Derived.Test.YtibegggcinonkaaPR
import Derived.Test.YtibegggcinonkaaOr
import Derived.Test.YtibegggcinonkaaAw
import Derived.Test.YtibegggcinonkaaLay
namespace Go.Proofs.Ytibegggcinonkaa
open Gv
theorem ar42m : arrSz Try.prog 42 = some (2, 1) := by kernel_rfl
theorem shE_snoc {a : Nat} {Y : List (Int × Int)} {i : Nat} (h : i < Y.length) : shE a (Y.take (i + 1)) = shE a (Y.take i) ++ [((Y.getD i (0, 0)).1 + (a : Int), (Y.getD i (0, 0)).2 + (a : Int))] := by
  unfold shE
  rw [List.take_add_one, List.getElem?_eq_getElem h, List.map_append, List.getD_eq_getElem?_getD, List.getElem?_eq_getElem h]
  rfl
set_option maxRecDepth 20000 in
set_option maxHeartbeats 8000000 in
theorem beside_true (x0 y0 : Int) (v1 v2 : Value) (L1 L2 : List (Int × Int)) (w : World) (h1 : Pairs2 w v1 L1) (h2 : Pairs2 w v2 L2) :
    Calls Try.prog 5 #[.agg #[.int .i64 x0, .int .i64 y0], v1, v2] w (Ret fun v w' => v = .bool true ∧ Ext w w') := by
  obtain ⟨q1, c1, rfl, hq1⟩ := h1.slice
  obtain ⟨q2, c2, rfl, hq2⟩ := h2.slice
  have hxb := mod_bnd x0 (n := 7) (by decide)
  have hyb := mod_bnd y0 (n := 7) (by decide)
  obtain ⟨a, ha⟩ : ∃ a : Nat, 1 + IntKind.u64.wrap x0 % 7 = a := ⟨(1 + IntKind.u64.wrap x0 % 7).toNat, by omega⟩
  obtain ⟨b, hb⟩ : ∃ b : Nat, 1 + IntKind.u64.wrap y0 % 7 = b := ⟨(1 + IntKind.u64.wrap y0 % 7).toNat, by omega⟩
  obtain ⟨m1, hm1⟩ : ∃ m1, IntKind.u64.wrap x0 % 7 = m1 := ⟨_, rfl⟩
  obtain ⟨m2, hm2⟩ : ∃ m2, IntKind.u64.wrap y0 % 7 = m2 := ⟨_, rfl⟩
  have hmod1 := fun w => mod_is x0 7 m1 w (by decide) hm1
  have hmod2 := fun w => mod_is y0 7 m2 w (by decide) hm2
  rw [hm1] at hxb ha
  rw [hm2] at hyb hb
  have hab : (1 ≤ a ∧ a ≤ 7) ∧ 1 ≤ b ∧ b ≤ 7 := by omega
  clear hm1 hm2
  refine calls_of_wc (args := [.agg #[.int .i64 x0, .int .i64 y0], .slice q1 L1.length c1, .slice q2 L2.length c2]) Try.func5 rfl ?_ ?_; kernel_rfl
  repeat' (first|refine za ?_|refine zA ?_|refine zB ?_|refine zb ?_|refine zc ?_|refine ze ?_|refine zd ?_|refine zC ?_|refine zD ?_|refine zE ?_|refine zF ?_|refine zG ?_|refine zH ?_|refine zI ?_|refine zJ ?_|refine zK ?_|refine zL ?_|refine zM ?_|refine zN ?_|refine zO ?_|refine zP ?_|refine zQ ?_|refine zR ?_|refine zS ?_|refine zU ?_|refine zV ?_|refine zW ?_|refine zt (fun hcd => ?_) (fun hcd => ?_)|refine zu (fun hcd => ?_) (fun hcd => ?_)|refine zX ?_|refine zY ?_|refine zv (fun hcd => ?_) (fun hcd => ?_)|refine zk ?_|refine zl ?_|refine zm ?_|refine zn ?_|refine zf ?_|refine zg ?_|refine zj ?_|refine zZ ?_|refine zh ?_|refine zi ?_|refine zo ?_|refine zp ?_|refine zq ?_|refine zr ?_|refine zs ?_)
  refine r_boxN (cells := [.int .i64 x0, .int .i64 y0]) rfl fun w0 hb0 hE0 hs0 => ?_
  obtain ⟨b3, eb3⟩ : ∃ b, b = w.heap.size := ⟨_, rfl⟩
  rw [← eb3] at hb0 ⊢
  have hEd0 := hE0.trans (Ext.drew w0)
  have g0 := (hb0.ext (Ext.drew w0)).rd (k := 0) (v := .int .i64 x0) rfl
  have g1 := (hb0.ext (Ext.drew w0)).rd (k := 1) (v := .int .i64 y0) rfl
  repeat' (first|refine za ?_|refine zA ?_|refine zB ?_|refine zb ?_|refine wc_seq_ne 1 rfl ?_|refine ze ?_|refine zd ?_|refine zC ?_|refine zD ?_|refine zE ?_|refine zF ?_|refine zG ?_|refine zH ?_|refine zI ?_|refine zJ ?_|refine zK ?_|refine zL ?_|refine zM ?_|refine zN ?_|refine zO ?_|refine zP ?_|refine zQ ?_|refine zR ?_|refine zS ?_|refine zU ?_|refine zV ?_|refine zW ?_|refine zt (fun hcd => ?_) (fun hcd => ?_)|refine zu (fun hcd => ?_) (fun hcd => ?_)|refine zX ?_|refine zY ?_|refine zv (fun hcd => ?_) (fun hcd => ?_)|refine zk ?_|refine zl ?_|refine zm ?_|refine zn ?_|refine zf ?_|refine zg ?_|refine zj ?_|refine zZ ?_|refine zh ?_|refine zi ?_|refine zo ?_|refine zp ?_|refine zq ?_|refine zr ?_|refine zs ?_)
  refine wc_join (σ := Unit) [1, 2] (fun _ => [(7, .int .i64 (a : Int)), (8, .int .i64 (b : Int))]) (fun _ w' => w' = w0.drew) rfl ?_ ?_
  · (refine wc_drawn 9 (by kernel_rfl) (by kernel_rfl) ?_; simp only [List.take_succ_cons, List.take_zero, List.drop_succ_cons, List.drop_zero])
    repeat' (first|refine za ?_|refine zA ?_|refine zB ?_|refine zb ?_|refine zc ?_|refine ze ?_|refine zd ?_|refine zC ?_|refine zD ?_|refine zE ?_|refine zF ?_|refine zG ?_|refine zH ?_|refine zI ?_|refine zJ ?_|refine zK ?_|refine zL ?_|refine zM ?_|refine zN ?_|refine zO ?_|refine zP ?_|refine zQ ?_|refine zR ?_|refine zS ?_|refine zU ?_|refine zV ?_|refine zW ?_|refine zt (fun hcd => ?_) (fun hcd => ?_)|refine zu (fun hcd => ?_) (fun hcd => ?_)|refine zX ?_|refine zY ?_|refine zv (fun hcd => ?_) (fun hcd => ?_)|refine zk ?_|refine zl ?_|refine zm ?_|refine zn ?_|refine zf ?_|refine zg ?_|refine zj ?_|refine zZ ?_|refine zh ?_|refine zi ?_|refine zo ?_|refine zp ?_|refine zq ?_|refine zr ?_|refine zs ?_)
    refine r_idxE ar42m rfl rfl (by decide) (by decide) ?_
    repeat' (first|refine za ?_|refine zA ?_|refine zB ?_|refine zb ?_|refine zc ?_|refine ze ?_|refine zd ?_|refine zC ?_|refine zD ?_|refine zE ?_|refine zF ?_|refine zG ?_|refine zH ?_|refine zI ?_|refine zJ ?_|refine zK ?_|refine zL ?_|refine zM ?_|refine zN ?_|refine zO ?_|refine zP ?_|refine zQ ?_|refine zR ?_|refine zS ?_|refine zU ?_|refine zV ?_|refine zW ?_|refine zt (fun hcd => ?_) (fun hcd => ?_)|refine zu (fun hcd => ?_) (fun hcd => ?_)|refine zX ?_|refine zY ?_|refine zv (fun hcd => ?_) (fun hcd => ?_)|refine zk ?_|refine zl ?_|refine zm ?_|refine zn ?_|refine zf ?_|refine zg ?_|refine zj ?_|refine zZ ?_|refine zh ?_|refine zi ?_|refine zo ?_|refine zp ?_|refine zq ?_|refine zr ?_|refine zs ?_)
    (refine r_call_q (v := ?_) rfl ?_ ?_; rotate_left 1; focus exact hmod1 _)
    repeat' (first|refine za ?_|refine zA ?_|refine zB ?_|refine zb ?_|refine zc ?_|refine ze ?_|refine zd ?_|refine zC ?_|refine zD ?_|refine zE ?_|refine zF ?_|refine zG ?_|refine zH ?_|refine zI ?_|refine zJ ?_|refine zK ?_|refine zL ?_|refine zM ?_|refine zN ?_|refine zO ?_|refine zP ?_|refine zQ ?_|refine zR ?_|refine zS ?_|refine zU ?_|refine zV ?_|refine zW ?_|refine zt (fun hcd => ?_) (fun hcd => ?_)|refine zu (fun hcd => ?_) (fun hcd => ?_)|refine zX ?_|refine zY ?_|refine zv (fun hcd => ?_) (fun hcd => ?_)|refine zk ?_|refine zl ?_|refine zm ?_|refine zn ?_|refine zf ?_|refine zg ?_|refine zj ?_|refine zZ ?_|refine zh ?_|refine zi ?_|refine zo ?_|refine zp ?_|refine zq ?_|refine zr ?_|refine zs ?_)
    refine r_idxE ar42m rfl rfl (by decide) (by decide) ?_
    repeat' (first|refine za ?_|refine zA ?_|refine zB ?_|refine zb ?_|refine zc ?_|refine ze ?_|refine zd ?_|refine zC ?_|refine zD ?_|refine zE ?_|refine zF ?_|refine zG ?_|refine zH ?_|refine zI ?_|refine zJ ?_|refine zK ?_|refine zL ?_|refine zM ?_|refine zN ?_|refine zO ?_|refine zP ?_|refine zQ ?_|refine zR ?_|refine zS ?_|refine zU ?_|refine zV ?_|refine zW ?_|refine zt (fun hcd => ?_) (fun hcd => ?_)|refine zu (fun hcd => ?_) (fun hcd => ?_)|refine zX ?_|refine zY ?_|refine zv (fun hcd => ?_) (fun hcd => ?_)|refine zk ?_|refine zl ?_|refine zm ?_|refine zn ?_|refine zf ?_|refine zg ?_|refine zj ?_|refine zZ ?_|refine zh ?_|refine zi ?_|refine zo ?_|refine zp ?_|refine zq ?_|refine zr ?_|refine zs ?_)
    (refine r_call_q (v := ?_) rfl ?_ ?_; rotate_left 1; focus exact hmod2 _)
    repeat' (first|refine za ?_|refine zA ?_|refine zB ?_|refine zb ?_|refine zc ?_|refine ze ?_|refine zd ?_|refine zC ?_|refine zD ?_|refine zE ?_|refine zF ?_|refine zG ?_|refine zH ?_|refine zI ?_|refine zJ ?_|refine zK ?_|refine zL ?_|refine zM ?_|refine zN ?_|refine zO ?_|refine zP ?_|refine zQ ?_|refine zR ?_|refine zS ?_|refine zU ?_|refine zV ?_|refine zW ?_|refine zt (fun hcd => ?_) (fun hcd => ?_)|refine zu (fun hcd => ?_) (fun hcd => ?_)|refine zX ?_|refine zY ?_|refine zv (fun hcd => ?_) (fun hcd => ?_)|refine zk ?_|refine zl ?_|refine zm ?_|refine zn ?_|refine zf ?_|refine zg ?_|refine zj ?_|refine zZ ?_|refine zh ?_|refine zi ?_|refine zo ?_|refine zp ?_|refine zq ?_|refine zr ?_|refine zs ?_)
    exact ⟨(), ⟨congrArg (Value.int .i64) ha, congrArg (Value.int .i64) hb, trivial⟩, rfl⟩
  clear hxb hyb ha hb hmod1 hmod2 g0 g1
  rintro _ w1 x1 rfl
  repeat' (first|refine za ?_|refine zA ?_|refine zB ?_|refine zb ?_|refine zc ?_|refine ze ?_|refine zd ?_|refine zC ?_|refine zD ?_|refine zE ?_|refine zF ?_|refine zG ?_|refine zH ?_|refine zI ?_|refine zJ ?_|refine zK ?_|refine zL ?_|refine zM ?_|refine zN ?_|refine zO ?_|refine zP ?_|refine zQ ?_|refine zR ?_|refine zS ?_|refine zU ?_|refine zV ?_|refine zW ?_|refine zt (fun hcd => ?_) (fun hcd => ?_)|refine zu (fun hcd => ?_) (fun hcd => ?_)|refine zX ?_|refine zY ?_|refine zv (fun hcd => ?_) (fun hcd => ?_)|refine zk ?_|refine zl ?_|refine zm ?_|refine zn ?_|refine zf ?_|refine zg ?_|refine zj ?_|refine zZ ?_|refine zh ?_|refine zi ?_|refine zo ?_|refine zp ?_|refine zq ?_|refine zr ?_|refine zs ?_)
  (refine r_call (R := ?_) rfl ?_ ?_; rotate_left 1; focus exact tame_any a _ L1 _ (h1.ext hEd0) (by omega))
  rintro vx wa ⟨X, hPa, hX, hEa⟩
  obtain ⟨qx, cx, rfl, hqx⟩ := (OwnP.pairs hPa).slice
  have hE0a := hEd0.trans hEa
  repeat' (first|refine za ?_|refine zA ?_|refine zB ?_|refine zb ?_|refine zc ?_|refine ze ?_|refine zd ?_|refine zC ?_|refine zD ?_|refine zE ?_|refine zF ?_|refine zG ?_|refine zH ?_|refine zI ?_|refine zJ ?_|refine zK ?_|refine zL ?_|refine zM ?_|refine zN ?_|refine zO ?_|refine zP ?_|refine zQ ?_|refine zR ?_|refine zS ?_|refine zU ?_|refine zV ?_|refine zW ?_|refine zt (fun hcd => ?_) (fun hcd => ?_)|refine zu (fun hcd => ?_) (fun hcd => ?_)|refine zX ?_|refine zY ?_|refine zv (fun hcd => ?_) (fun hcd => ?_)|refine zk ?_|refine zl ?_|refine zm ?_|refine zn ?_|refine zf ?_|refine zg ?_|refine zj ?_|refine zZ ?_|refine zh ?_|refine zi ?_|refine zo ?_|refine zp ?_|refine zq ?_|refine zr ?_|refine zs ?_)
  (refine r_call (R := ?_) rfl ?_ ?_; rotate_left 1; focus exact tame_any b _ L2 _ (h2.ext hE0a) (by omega))
  rintro vy wb ⟨Y, hPb, hY, hEb⟩
  obtain ⟨qy, cy, rfl, hqy⟩ := (OwnP.pairs hPb).slice
  have hE0b := hE0a.trans hEb
  have hPX := (OwnP.pairs hPa).ext hEb
  have hPY := OwnP.pairs hPb
  have helX : ∀ g, (Value.slice qx X.length cx).ownBlock = some g → g < wb.heap.size := fun g hg => by have := (World.ownsRow.lt hPa g hg).2; have := hEb.size; omega
  have helY : ∀ g, (Value.slice qy Y.length cy).ownBlock = some g → g < wb.heap.size := fun g hg => (World.ownsRow.lt hPb g hg).2
  have hXl := hX.len
  have hYl := hY.len
  clear h1 h2 hq1 hq2 hPa hPb
  repeat' (first|refine za ?_|refine zA ?_|refine zB ?_|refine zb ?_|refine zc ?_|refine ze ?_|refine zd ?_|refine zC ?_|refine zD ?_|refine zE ?_|refine zF ?_|refine zG ?_|refine zH ?_|refine zI ?_|refine zJ ?_|refine zK ?_|refine zL ?_|refine zM ?_|refine zN ?_|refine zO ?_|refine zP ?_|refine zQ ?_|refine zR ?_|refine zS ?_|refine zU ?_|refine zV ?_|refine zW ?_|refine zt (fun hcd => ?_) (fun hcd => ?_)|refine zu (fun hcd => ?_) (fun hcd => ?_)|refine zX ?_|refine zY ?_|refine zv (fun hcd => ?_) (fun hcd => ?_)|refine zk ?_|refine zl ?_|refine zm ?_|refine zn ?_|refine zf ?_|refine zg ?_|refine zj ?_|refine zZ ?_|refine zh ?_|refine zi ?_|refine zo ?_|refine zp ?_|refine zq ?_|refine zr ?_|refine zs ?_)
  (refine r_call (R := ?_) rfl ?_ ?_; rotate_left 1; focus exact edges_any _ X _ hPX)
  rintro vo wc ⟨hPc, hEc⟩
  rw [List.take_of_length_le (by omega)] at hPc
  repeat' (first|refine za ?_|refine zA ?_|refine zB ?_|refine zb ?_|refine zc ?_|refine ze ?_|refine zd ?_|refine zC ?_|refine zD ?_|refine zE ?_|refine zF ?_|refine zG ?_|refine zH ?_|refine zI ?_|refine zJ ?_|refine zK ?_|refine zL ?_|refine zM ?_|refine zN ?_|refine zO ?_|refine zP ?_|refine zQ ?_|refine zR ?_|refine zS ?_|refine zU ?_|refine zV ?_|refine zW ?_|refine zt (fun hcd => ?_) (fun hcd => ?_)|refine zu (fun hcd => ?_) (fun hcd => ?_)|refine zX ?_|refine zY ?_|refine zv (fun hcd => ?_) (fun hcd => ?_)|refine zk ?_|refine zl ?_|refine zm ?_|refine zn ?_|refine zf ?_|refine zg ?_|refine zj ?_|refine zZ ?_|refine zh ?_|refine zi ?_|refine zo ?_|refine zp ?_|refine zq ?_|refine zr ?_|refine zs ?_)
  refine wc_loop2 [7, 8, 9, 10] (fun (i : Nat) (vo : Value) => [(11, vo), (12, .int .i64 i)]) (fun i vo wk => i ≤ Y.length ∧ OwnP wk wb.heap.size 46 vo (X ++ shE a (Y.take i)) ∧ Ext wb wk) (fun i _ => Y.length - i) 0 vo rfl ⟨rfl, rfl, trivial⟩
    ⟨by omega, by simpa [shE] using hPc, hEc⟩ ?_
  clear hPc hEc
  rintro i vo wk x ⟨hi, hO, hEk⟩
  by_cases hin : i < Y.length
  · have hst := shE_snoc (a := a) hin
    have hEd := Ext.drew wk
    have hOd := ownsRow_ext hO hEd
    have hOb := fun k hk => (World.ownsRow.lt hO k hk).1
    have hYw : ∀ w', Ch (fun k => vo.ownBlock = some k) wk.drew w' → Pairs2 w' (.slice qy Y.length cy) Y := fun w' hw' => (hPY.ext (hEk.trans hEd)).keep hw' fun g hg e => by
      have := helY g hg; have := hOb g e; omega
    have e0 := fun w' hw' => ((hYw w' hw').rd hin).1
    have e1 := fun w' hw' => ((hYw w' hw').rd hin).2
    have hys := hPY.isSome (by omega)
    have hyr := hY.ed i hin
    have hbl : (X ++ shE a (Y.take i)).length ≤ 1000 := by simp [shE]; omega
    unfold ed at hyr
    generalize Y.getD i (0, 0) = yy at *
    obtain ⟨ya, yb⟩ := yy
    dsimp only at hyr e0 e1 hst
    repeat' (first|refine za ?_|refine zA ?_|refine zB ?_|refine zb ?_|refine zc ?_|refine ze ?_|refine zd ?_|refine zC ?_|refine zD ?_|refine zE ?_|refine zF ?_|refine zG ?_|refine zH ?_|refine zI ?_|refine zJ ?_|refine zK ?_|refine zL ?_|refine zM ?_|refine zN ?_|refine zO ?_|refine zP ?_|refine zQ ?_|refine zR ?_|refine zS ?_|refine zU ?_|refine zV ?_|refine zW ?_|refine zt (fun hcd => ?_) (fun hcd => ?_)|refine zu (fun hcd => ?_) (fun hcd => ?_)|refine zX ?_|refine zY ?_|refine zv (fun hcd => ?_) (fun hcd => ?_)|refine zk ?_|refine zl ?_|refine zm ?_|refine zn ?_|refine zf ?_|refine zg ?_|refine zj ?_|refine zZ ?_|refine zh ?_|refine zi ?_|refine zo ?_|refine zp ?_|refine zq ?_|refine zr ?_|refine zs ?_)
    refine wc_heldB (fun w' => Ch (fun k => vo.ownBlock = some k) wk.drew w') (.take 0 (.take 1 (.take 2 (.take 3 (.take 4 (.take 5 (.take 6 (.take 7 (.take 8 (.take 9 (.take 10 (.take 11 (.take 12 (.take 13 (.take 14 (.one 15 (.one 16 (.one 17 (.one 18 .done))))))))))))))))))) (by kernel_rfl) (by kernel_rfl) (Ch.refl _ _) ?_
    refine whB_take (v := vo) rfl rfl (fun w' hw' => rv_move_v rfl) ?_
    refine whB_take (v := .slice qy Y.length cy) rfl rfl (fun w' hw' => rv_move_v rfl) ?_
    refine whB_take (v := .int .i64 i) rfl rfl (fun w' hw' => rv_move_v rfl) ?_
    refine whB_take rfl rfl (fun w' hw' => rv_idx sz22 rfl rfl hys (by omega) (by omega)) ?_
    refine whB_take rfl rfl (fun w' hw' => rv_faQ fo46_0 rfl (pidx_isSome hys)) ?_
    refine whB_take rfl rfl (fun w' hw' => rv_ld rfl rfl (e0 w' hw')) ?_
    refine whB_take (v := .int .i64 a) rfl rfl (fun w' hw' => rv_move_v rfl) ?_
    refine whB_take rfl rfl (fun w' hw' => rv_add rfl rfl ⟨by omega, by omega⟩) ?_
    refine whB_take (v := .slice qy Y.length cy) rfl rfl (fun w' hw' => rv_move_v rfl) ?_
    refine whB_take (v := .int .i64 i) rfl rfl (fun w' hw' => rv_move_v rfl) ?_
    refine whB_take rfl rfl (fun w' hw' => rv_idx sz22 rfl rfl hys (by omega) (by omega)) ?_
    refine whB_take rfl rfl (fun w' hw' => rv_faQ fo46_1 rfl (pidx_isSome hys)) ?_
    refine whB_take rfl rfl (fun w' hw' => rv_ld rfl rfl (e1 w' hw')) ?_
    refine whB_take (v := .int .i64 a) rfl rfl (fun w' hw' => rv_move_v rfl) ?_
    refine whB_take rfl rfl (fun w' hw' => rv_add rfl rfl ⟨by omega, by omega⟩) ?_
    refine whB_one rfl rfl ?_
    refine r_build (blt46 (ya + a) (yb + a)) ?_
    refine ⟨Ch.refl _ _, ?_⟩
    refine whB_one rfl rfl ?_
    refine r_buildS1q (a := .int .i64 (ya + a)) (b := .int .i64 (yb + a)) el22 rfl fun w12 hI12 hE12 hs12 => ?_
    refine ⟨Ext.ch hE12, ?_⟩
    refine whB_one rfl rfl ?_
    refine r_append (n := (X ++ shE a (Y.take i)).length) (m := 1) (xs := prc (X ++ shE a (Y.take i))) (news := [.int .i64 (ya + a), .int .i64 (yb + a)]) (base := wb.heap.size) el22 rfl (by decide) (by decide) (ownsRow_ext hOd hE12) hI12 rfl rfl (by intro q hq; simp at hq; rcases hq with rfl | rfl <;> rfl) (by omega) (by have := (hEk.trans hEd).trans hE12; exact this.size) ?_
    intro v13 w13 hO13 hg13 _ _
    have hC13 : Ch (fun k => vo.ownBlock = some k) wk.drew w13 := hE12.ch.trans (Ch.grown hg13 fun k hk => hk)
    refine ⟨hC13, ?_⟩
    refine whB_one rfl rfl ?_
    refine r_assign_v (v := v13) rfl ?_
    refine ⟨hC13, ?_⟩
    refine whB_done ?_
    repeat' (first|refine za ?_|refine zA ?_|refine zB ?_|refine zb ?_|refine zc ?_|refine ze ?_|refine zd ?_|refine zC ?_|refine zD ?_|refine zE ?_|refine zF ?_|refine zG ?_|refine zH ?_|refine zI ?_|refine zJ ?_|refine zK ?_|refine zL ?_|refine zM ?_|refine zN ?_|refine zO ?_|refine zP ?_|refine zQ ?_|refine zR ?_|refine zS ?_|refine zU ?_|refine zV ?_|refine zW ?_|refine zt (fun hcd => ?_) (fun hcd => ?_)|refine zu (fun hcd => ?_) (fun hcd => ?_)|refine zX ?_|refine zY ?_|refine zv (fun hcd => ?_) (fun hcd => ?_)|refine zk ?_|refine zl ?_|refine zm ?_|refine zn ?_|refine zf ?_|refine zg ?_|refine zj ?_|refine zZ ?_|refine zh ?_|refine zi ?_|refine zo ?_|refine zp ?_|refine zq ?_|refine zr ?_|refine zs ?_)
    refine ⟨i + 1, v13, ⟨rfl, rfl, trivial⟩, ⟨by omega, ?_, Ch.trans' (hEk.trans hEd) hC13 fun k hk e => by have := hOb k e; omega⟩, by omega⟩
    rw [hst, ← List.append_assoc]
    unfold OwnP
    rw [List.length_append, prc_append]
    exact hO13
  have : i = Y.length := by omega
  subst this
  rw [List.take_length] at hO
  have hE0k := hE0b.trans hEk
  have hPZ := OwnP.pairs hO
  have helZ : ∀ g, vo.ownBlock = some g → g < wk.heap.size := fun g hg => (World.ownsRow.lt hO g hg).2
  have helX' : ∀ g, (Value.slice qx X.length cx).ownBlock = some g → g < wk.heap.size := fun g hg => by have := helX g hg; have := hEk.size; omega
  have helY' : ∀ g, (Value.slice qy Y.length cy).ownBlock = some g → g < wk.heap.size := fun g hg => by have := helY g hg; have := hEk.size; omega
  have hZ := isG_b hX hY (by omega)
  rw [Int.natCast_add] at hZ
  have hZl := len_b (X := X) (a := a) (Y := Y)
  have hdens := fun S1 S2 S3 (h1 : Dens a X S1) (h2 : Dens b Y S2) (h3 : Dens ((a : Int) + b) (X ++ shE a Y) S3) => beside_dens hX hY h1 h2 (by rw [Int.natCast_add]; exact h3)
  have hcore := beside_core hX.ed hY.ed (by have := hZ.ed; rw [← Int.natCast_add] at this; exact this)
  obtain ⟨qz, cz, rfl, hqz⟩ := hPZ.slice
  have hXk := hPX.ext hEk
  have hYk := hPY.ext hEk
  clear hO helX helY hi hin hPX hPY
  generalize X ++ shE a Y = Z at *
  repeat' (first|refine za ?_|refine zA ?_|refine zB ?_|refine zb ?_|refine zc ?_|refine ze ?_|refine zd ?_|refine zC ?_|refine zD ?_|refine zE ?_|refine zF ?_|refine zG ?_|refine zH ?_|refine zI ?_|refine zJ ?_|refine zK ?_|refine zL ?_|refine zM ?_|refine zN ?_|refine zO ?_|refine zP ?_|refine zQ ?_|refine zR ?_|refine zS ?_|refine zU ?_|refine zV ?_|refine zW ?_|refine zt (fun hcd => ?_) (fun hcd => ?_)|refine zu (fun hcd => ?_) (fun hcd => ?_)|refine zX ?_|refine zY ?_|refine zv (fun hcd => ?_) (fun hcd => ?_)|refine zk ?_|refine zl ?_|refine zm ?_|refine zn ?_|refine zf ?_|refine zg ?_|refine zj ?_|refine zZ ?_|refine zh ?_|refine zi ?_|refine zo ?_|refine zp ?_|refine zq ?_|refine zr ?_|refine zs ?_)
  (refine r_call (R := ?_) rfl ?_ ?_; rotate_left 1; focus exact densest_any a _ X _ hXk (by omega) helX')
  rintro v w4 ⟨hR, hE4⟩
  unfold DensR at hR
  rw [if_pos hX] at hR
  obtain ⟨S1, Sh1, vs1, vh1, rfl, hS1, hSh1, _, hD1, _⟩ := hR
  obtain ⟨qs1, cs1, rfl, _⟩ := (OwnI.ints hS1).slice
  obtain ⟨qp1, cp1, rfl, _⟩ := (OwnP.pairs hSh1).slice
  have hb1 := dens_bnd hX hD1.isS
  clear hS1 hSh1
  have hdens1 := fun S2 S3 => hdens S1 S2 S3 hD1
  clear hdens hD1
  generalize dnum X S1 = n1 at *
  generalize dden X S1 = d1 at *
  repeat' (first|refine za ?_|refine zA ?_|refine zB ?_|refine zb ?_|refine zc ?_|refine ze ?_|refine zd ?_|refine zC ?_|refine zD ?_|refine zE ?_|refine zF ?_|refine zG ?_|refine zH ?_|refine zI ?_|refine zJ ?_|refine zK ?_|refine zL ?_|refine zM ?_|refine zN ?_|refine zO ?_|refine zP ?_|refine zQ ?_|refine zR ?_|refine zS ?_|refine zU ?_|refine zV ?_|refine zW ?_|refine zt (fun hcd => ?_) (fun hcd => ?_)|refine zu (fun hcd => ?_) (fun hcd => ?_)|refine zX ?_|refine zY ?_|refine zv (fun hcd => ?_) (fun hcd => ?_)|refine zk ?_|refine zl ?_|refine zm ?_|refine zn ?_|refine zf ?_|refine zg ?_|refine zj ?_|refine zZ ?_|refine zh ?_|refine zi ?_|refine zo ?_|refine zp ?_|refine zq ?_|refine zr ?_|refine zs ?_)
  refine r_allocN z48 fun w5 hb5 hE5 hs5 => ?_
  obtain ⟨b14, eb14⟩ : ∃ b, b = w4.heap.size := ⟨_, rfl⟩
  rw [← eb14] at hb5 ⊢
  repeat' (first|refine za ?_|refine zA ?_|refine zB ?_|refine zb ?_|refine zc ?_|refine ze ?_|refine zd ?_|refine zC ?_|refine zD ?_|refine zE ?_|refine zF ?_|refine zG ?_|refine zH ?_|refine zI ?_|refine zJ ?_|refine zK ?_|refine zL ?_|refine zM ?_|refine zN ?_|refine zO ?_|refine zP ?_|refine zQ ?_|refine zR ?_|refine zS ?_|refine zU ?_|refine zV ?_|refine zW ?_|refine zt (fun hcd => ?_) (fun hcd => ?_)|refine zu (fun hcd => ?_) (fun hcd => ?_)|refine zX ?_|refine zY ?_|refine zv (fun hcd => ?_) (fun hcd => ?_)|refine zk ?_|refine zl ?_|refine zm ?_|refine zn ?_|refine zf ?_|refine zg ?_|refine zj ?_|refine zZ ?_|refine zh ?_|refine zi ?_|refine zo ?_|refine zp ?_|refine zq ?_|refine zr ?_|refine zs ?_)
  refine r_stN (ws := [.int .i64 (n1 : Int), .int .i64 (d1 : Int)]) ag48 (by decide) hb5 (by rw [ints_length]; simp) rfl rfl rfl (by intro q hq; simp at hq; rcases hq with rfl | rfl <;> rfl) fun w6 h6 hC6 hs6 => ?_
  have hE6 : Ext w4 w6 := Ch.trans' hE5 hC6 fun k hk e => by omega
  have hEk6 := hE4.trans hE6
  repeat' (first|refine za ?_|refine zA ?_|refine zB ?_|refine zb ?_|refine zc ?_|refine ze ?_|refine zd ?_|refine zC ?_|refine zD ?_|refine zE ?_|refine zF ?_|refine zG ?_|refine zH ?_|refine zI ?_|refine zJ ?_|refine zK ?_|refine zL ?_|refine zM ?_|refine zN ?_|refine zO ?_|refine zP ?_|refine zQ ?_|refine zR ?_|refine zS ?_|refine zU ?_|refine zV ?_|refine zW ?_|refine zt (fun hcd => ?_) (fun hcd => ?_)|refine zu (fun hcd => ?_) (fun hcd => ?_)|refine zX ?_|refine zY ?_|refine zv (fun hcd => ?_) (fun hcd => ?_)|refine zk ?_|refine zl ?_|refine zm ?_|refine zn ?_|refine zf ?_|refine zg ?_|refine zj ?_|refine zZ ?_|refine zh ?_|refine zi ?_|refine zo ?_|refine zp ?_|refine zq ?_|refine zr ?_|refine zs ?_)
  (refine r_call (R := ?_) rfl ?_ ?_; rotate_left 1; focus exact densest_any b _ Y _ (hYk.ext hEk6) (by omega) (fun g hg => by have := helY' g hg; have := hEk6.size; omega))
  rintro v w7 ⟨hR, hE7⟩
  unfold DensR at hR
  rw [if_pos hY] at hR
  obtain ⟨S2, Sh2, vs2, vh2, rfl, hS2, hSh2, _, hD2, _⟩ := hR
  obtain ⟨qs2, cs2, rfl, _⟩ := (OwnI.ints hS2).slice
  obtain ⟨qp2, cp2, rfl, _⟩ := (OwnP.pairs hSh2).slice
  have hb2 := dens_bnd hY hD2.isS
  clear hS2 hSh2
  have hdens2 := fun S3 => hdens1 S2 S3 hD2
  clear hdens1 hD2
  generalize dnum Y S2 = n2 at *
  generalize dden Y S2 = d2 at *
  repeat' (first|refine za ?_|refine zA ?_|refine zB ?_|refine zb ?_|refine zc ?_|refine ze ?_|refine zd ?_|refine zC ?_|refine zD ?_|refine zE ?_|refine zF ?_|refine zG ?_|refine zH ?_|refine zI ?_|refine zJ ?_|refine zK ?_|refine zL ?_|refine zM ?_|refine zN ?_|refine zO ?_|refine zP ?_|refine zQ ?_|refine zR ?_|refine zS ?_|refine zU ?_|refine zV ?_|refine zW ?_|refine zt (fun hcd => ?_) (fun hcd => ?_)|refine zu (fun hcd => ?_) (fun hcd => ?_)|refine zX ?_|refine zY ?_|refine zv (fun hcd => ?_) (fun hcd => ?_)|refine zk ?_|refine zl ?_|refine zm ?_|refine zn ?_|refine zf ?_|refine zg ?_|refine zj ?_|refine zZ ?_|refine zh ?_|refine zi ?_|refine zo ?_|refine zp ?_|refine zq ?_|refine zr ?_|refine zs ?_)
  refine r_allocN z48 fun w8 hb8 hE8 hs8 => ?_
  obtain ⟨b18, eb18⟩ : ∃ b, b = w7.heap.size := ⟨_, rfl⟩
  rw [← eb18] at hb8 ⊢
  repeat' (first|refine za ?_|refine zA ?_|refine zB ?_|refine zb ?_|refine zc ?_|refine ze ?_|refine zd ?_|refine zC ?_|refine zD ?_|refine zE ?_|refine zF ?_|refine zG ?_|refine zH ?_|refine zI ?_|refine zJ ?_|refine zK ?_|refine zL ?_|refine zM ?_|refine zN ?_|refine zO ?_|refine zP ?_|refine zQ ?_|refine zR ?_|refine zS ?_|refine zU ?_|refine zV ?_|refine zW ?_|refine zt (fun hcd => ?_) (fun hcd => ?_)|refine zu (fun hcd => ?_) (fun hcd => ?_)|refine zX ?_|refine zY ?_|refine zv (fun hcd => ?_) (fun hcd => ?_)|refine zk ?_|refine zl ?_|refine zm ?_|refine zn ?_|refine zf ?_|refine zg ?_|refine zj ?_|refine zZ ?_|refine zh ?_|refine zi ?_|refine zo ?_|refine zp ?_|refine zq ?_|refine zr ?_|refine zs ?_)
  refine r_stN (ws := [.int .i64 (n2 : Int), .int .i64 (d2 : Int)]) ag48 (by decide) hb8 (by rw [ints_length]; simp) rfl rfl rfl (by intro q hq; simp at hq; rcases hq with rfl | rfl <;> rfl) fun w9 h9 hC9 hs9 => ?_
  have hE9 : Ext w7 w9 := Ch.trans' hE8 hC9 fun k hk e => by omega
  have hE69 := hE7.trans hE9
  have hEk9 := hEk6.trans hE69
  repeat' (first|refine za ?_|refine zA ?_|refine zB ?_|refine zb ?_|refine zc ?_|refine ze ?_|refine zd ?_|refine zC ?_|refine zD ?_|refine zE ?_|refine zF ?_|refine zG ?_|refine zH ?_|refine zI ?_|refine zJ ?_|refine zK ?_|refine zL ?_|refine zM ?_|refine zN ?_|refine zO ?_|refine zP ?_|refine zQ ?_|refine zR ?_|refine zS ?_|refine zU ?_|refine zV ?_|refine zW ?_|refine zt (fun hcd => ?_) (fun hcd => ?_)|refine zu (fun hcd => ?_) (fun hcd => ?_)|refine zX ?_|refine zY ?_|refine zv (fun hcd => ?_) (fun hcd => ?_)|refine zk ?_|refine zl ?_|refine zm ?_|refine zn ?_|refine zf ?_|refine zg ?_|refine zj ?_|refine zZ ?_|refine zh ?_|refine zi ?_|refine zo ?_|refine zp ?_|refine zq ?_|refine zr ?_|refine zs ?_)
  (refine r_call (R := ?_) rfl ?_ ?_; rotate_left 1; focus exact densest_any ((a : Int) + b) _ Z _ (hPZ.ext hEk9) (by omega) (fun g hg => by have := helZ g hg; have := hEk9.size; omega))
  rintro v w10 ⟨hR, hE10⟩
  unfold DensR at hR
  rw [if_pos hZ] at hR
  obtain ⟨S3, Sh3, vs3, vh3, rfl, hS3, hSh3, _, hD3, _⟩ := hR
  obtain ⟨qs3, cs3, rfl, _⟩ := (OwnI.ints hS3).slice
  obtain ⟨qp3, cp3, rfl, _⟩ := (OwnP.pairs hSh3).slice
  obtain ⟨hlt, hge⟩ := hdens2 S3 hD3
  clear hS3 hSh3 hdens2 hD3
  generalize dnum Z S3 = n3 at *
  generalize dden Z S3 = d3 at *
  repeat' (first|refine za ?_|refine zA ?_|refine zB ?_|refine zb ?_|refine zc ?_|refine ze ?_|refine zd ?_|refine zC ?_|refine zD ?_|refine zE ?_|refine zF ?_|refine zG ?_|refine zH ?_|refine zI ?_|refine zJ ?_|refine zK ?_|refine zL ?_|refine zM ?_|refine zN ?_|refine zO ?_|refine zP ?_|refine zQ ?_|refine zR ?_|refine zS ?_|refine zU ?_|refine zV ?_|refine zW ?_|refine zt (fun hcd => ?_) (fun hcd => ?_)|refine zu (fun hcd => ?_) (fun hcd => ?_)|refine zX ?_|refine zY ?_|refine zv (fun hcd => ?_) (fun hcd => ?_)|refine zk ?_|refine zl ?_|refine zm ?_|refine zn ?_|refine zf ?_|refine zg ?_|refine zj ?_|refine zZ ?_|refine zh ?_|refine zi ?_|refine zo ?_|refine zp ?_|refine zq ?_|refine zr ?_|refine zs ?_)
  refine r_allocN z48 fun w11 hb11 hE11 hs11 => ?_
  obtain ⟨b22, eb22⟩ : ∃ b, b = w10.heap.size := ⟨_, rfl⟩
  rw [← eb22] at hb11 ⊢
  repeat' (first|refine za ?_|refine zA ?_|refine zB ?_|refine zb ?_|refine zc ?_|refine ze ?_|refine zd ?_|refine zC ?_|refine zD ?_|refine zE ?_|refine zF ?_|refine zG ?_|refine zH ?_|refine zI ?_|refine zJ ?_|refine zK ?_|refine zL ?_|refine zM ?_|refine zN ?_|refine zO ?_|refine zP ?_|refine zQ ?_|refine zR ?_|refine zS ?_|refine zU ?_|refine zV ?_|refine zW ?_|refine zt (fun hcd => ?_) (fun hcd => ?_)|refine zu (fun hcd => ?_) (fun hcd => ?_)|refine zX ?_|refine zY ?_|refine zv (fun hcd => ?_) (fun hcd => ?_)|refine zk ?_|refine zl ?_|refine zm ?_|refine zn ?_|refine zf ?_|refine zg ?_|refine zj ?_|refine zZ ?_|refine zh ?_|refine zi ?_|refine zo ?_|refine zp ?_|refine zq ?_|refine zr ?_|refine zs ?_)
  refine r_stN (ws := [.int .i64 (n3 : Int), .int .i64 (d3 : Int)]) ag48 (by decide) hb11 (by rw [ints_length]; simp) rfl rfl rfl (by intro q hq; simp at hq; rcases hq with rfl | rfl <;> rfl) fun w12 h12 hC12 hs12 => ?_
  have hE12 : Ext w10 w12 := Ch.trans' hE11 hC12 fun k hk e => by omega
  have hE912 := hE10.trans hE12
  have hEk12 := hEk9.trans hE912
  repeat' (first|refine za ?_|refine zA ?_|refine zB ?_|refine zb ?_|refine zc ?_|refine ze ?_|refine zd ?_|refine zC ?_|refine zD ?_|refine zE ?_|refine zF ?_|refine zG ?_|refine zH ?_|refine zI ?_|refine zJ ?_|refine zK ?_|refine zL ?_|refine zM ?_|refine zN ?_|refine zO ?_|refine zP ?_|refine zQ ?_|refine zR ?_|refine zS ?_|refine zU ?_|refine zV ?_|refine zW ?_|refine zt (fun hcd => ?_) (fun hcd => ?_)|refine zu (fun hcd => ?_) (fun hcd => ?_)|refine zX ?_|refine zY ?_|refine zv (fun hcd => ?_) (fun hcd => ?_)|refine zk ?_|refine zl ?_|refine zm ?_|refine zn ?_|refine zf ?_|refine zg ?_|refine zj ?_|refine zZ ?_|refine zh ?_|refine zi ?_|refine zo ?_|refine zp ?_|refine zq ?_|refine zr ?_|refine zs ?_)
  (refine r_call (R := ?_) rfl ?_ ?_; rotate_left 1; focus exact cores_any a _ X _ (hXk.ext hEk12) (by omega) (fun g hg => by have := helX' g hg; have := hEk12.size; omega))
  rintro v w13 ⟨hR, hE13⟩
  unfold CoresR at hR
  rw [if_pos hX] at hR
  obtain ⟨vc1, rfl, hC1⟩ := hR
  have hI1 := OwnI.ints hC1
  simp only [Int.toNat_natCast] at hI1 ⊢
  have hl1 := peC_len (L := X) (n := a) a
  obtain ⟨qc1, cc1, rfl, _⟩ := hI1.slice
  have hEk13 := hEk12.trans hE13
  clear hC1
  repeat' (first|refine za ?_|refine zA ?_|refine zB ?_|refine zb ?_|refine zc ?_|refine ze ?_|refine zd ?_|refine zC ?_|refine zD ?_|refine zE ?_|refine zF ?_|refine zG ?_|refine zH ?_|refine zI ?_|refine zJ ?_|refine zK ?_|refine zL ?_|refine zM ?_|refine zN ?_|refine zO ?_|refine zP ?_|refine zQ ?_|refine zR ?_|refine zS ?_|refine zU ?_|refine zV ?_|refine zW ?_|refine zt (fun hcd => ?_) (fun hcd => ?_)|refine zu (fun hcd => ?_) (fun hcd => ?_)|refine zX ?_|refine zY ?_|refine zv (fun hcd => ?_) (fun hcd => ?_)|refine zk ?_|refine zl ?_|refine zm ?_|refine zn ?_|refine zf ?_|refine zg ?_|refine zj ?_|refine zZ ?_|refine zh ?_|refine zi ?_|refine zo ?_|refine zp ?_|refine zq ?_|refine zr ?_|refine zs ?_)
  (refine r_call (R := ?_) rfl ?_ ?_; rotate_left 1; focus exact cores_any b _ Y _ (hYk.ext hEk13) (by omega) (fun g hg => by have := helY' g hg; have := hEk13.size; omega))
  rintro v w14 ⟨hR, hE14⟩
  unfold CoresR at hR
  rw [if_pos hY] at hR
  obtain ⟨vc2, rfl, hC2⟩ := hR
  have hI2 := OwnI.ints hC2
  simp only [Int.toNat_natCast] at hI2 ⊢
  have hl2 := peC_len (L := Y) (n := b) b
  obtain ⟨qc2, cc2, rfl, _⟩ := hI2.slice
  have hEk14 := hEk13.trans hE14
  clear hC2
  repeat' (first|refine za ?_|refine zA ?_|refine zB ?_|refine zb ?_|refine zc ?_|refine ze ?_|refine zd ?_|refine zC ?_|refine zD ?_|refine zE ?_|refine zF ?_|refine zG ?_|refine zH ?_|refine zI ?_|refine zJ ?_|refine zK ?_|refine zL ?_|refine zM ?_|refine zN ?_|refine zO ?_|refine zP ?_|refine zQ ?_|refine zR ?_|refine zS ?_|refine zU ?_|refine zV ?_|refine zW ?_|refine zt (fun hcd => ?_) (fun hcd => ?_)|refine zu (fun hcd => ?_) (fun hcd => ?_)|refine zX ?_|refine zY ?_|refine zv (fun hcd => ?_) (fun hcd => ?_)|refine zk ?_|refine zl ?_|refine zm ?_|refine zn ?_|refine zf ?_|refine zg ?_|refine zj ?_|refine zZ ?_|refine zh ?_|refine zi ?_|refine zo ?_|refine zp ?_|refine zq ?_|refine zr ?_|refine zs ?_)
  (refine r_call (R := ?_) rfl ?_ ?_; rotate_left 1; focus exact cores_any ((a : Int) + b) _ Z _ (hPZ.ext hEk14) (by omega) (fun g hg => by have := helZ g hg; have := hEk14.size; omega))
  rintro v w15 ⟨hR, hE15⟩
  unfold CoresR at hR
  rw [if_pos hZ] at hR
  obtain ⟨vc3, rfl, hC3⟩ := hR
  have htn : ((a : Int) + b).toNat = a + b := by omega
  rw [htn, hcore] at hC3
  have hI3 := OwnI.ints hC3
  obtain ⟨qc3, cc3, rfl, _⟩ := hI3.slice
  have hEk15 := hEk14.trans hE15
  have hE1215 := (hE13.trans hE14).trans hE15
  have hI1 := hI1.ext (hE14.trans hE15)
  have hI2 := hI2.ext hE15
  have h6z := h6.ext ((hE69.trans hE912).trans hE1215)
  have h9z := h9.ext (hE912.trans hE1215)
  have h12z := h12.ext hE1215
  clear hC3 hcore h6 h9 h12
  generalize peC X a a = A at *
  generalize peC Y b b = B at *
  repeat' (first|refine za ?_|refine zA ?_|refine zB ?_|refine zb ?_|refine zc ?_|refine ze ?_|refine zd ?_|refine zC ?_|refine zD ?_|refine zE ?_|refine zF ?_|refine zG ?_|refine zH ?_|refine zI ?_|refine zJ ?_|refine zK ?_|refine zL ?_|refine zM ?_|refine zN ?_|refine zO ?_|refine zP ?_|refine zQ ?_|refine zR ?_|refine zS ?_|refine zU ?_|refine zV ?_|refine zW ?_|refine zt (fun hcd => ?_) (fun hcd => ?_)|refine zu (fun hcd => ?_) (fun hcd => ?_)|refine zX ?_|refine zY ?_|refine zv (fun hcd => ?_) (fun hcd => ?_)|refine zk ?_|refine zl ?_|refine zm ?_|refine zn ?_|refine zf ?_|refine zg ?_|refine zj ?_|refine zZ ?_|refine zh ?_|refine zi ?_|refine zo ?_|refine zp ?_|refine zq ?_|refine zr ?_|refine zs ?_)
  refine r_ldN (vs := [.int .i64 (n1 : Int), .int .i64 (d1 : Int)]) ag48 (by decide) h6z rfl rfl ?_
  repeat' (first|refine za ?_|refine zA ?_|refine zB ?_|refine zb ?_|refine zc ?_|refine ze ?_|refine zd ?_|refine zC ?_|refine zD ?_|refine zE ?_|refine zF ?_|refine zG ?_|refine zH ?_|refine zI ?_|refine zJ ?_|refine zK ?_|refine zL ?_|refine zM ?_|refine zN ?_|refine zO ?_|refine zP ?_|refine zQ ?_|refine zR ?_|refine zS ?_|refine zU ?_|refine zV ?_|refine zW ?_|refine zt (fun hcd => ?_) (fun hcd => ?_)|refine zu (fun hcd => ?_) (fun hcd => ?_)|refine zX ?_|refine zY ?_|refine zv (fun hcd => ?_) (fun hcd => ?_)|refine zk ?_|refine zl ?_|refine zm ?_|refine zn ?_|refine zf ?_|refine zg ?_|refine zj ?_|refine zZ ?_|refine zh ?_|refine zi ?_|refine zo ?_|refine zp ?_|refine zq ?_|refine zr ?_|refine zs ?_)
  (refine r_call (R := ?_) rfl ?_ ?_; rotate_left 1; focus exact valid_any (n1 : Int) d1 _ ⟨by omega, by omega⟩)
  rintro v w16 ⟨rfl, hE16⟩
  repeat' (first|refine za ?_|refine zA ?_|refine zB ?_|refine zb ?_|refine zc ?_|refine ze ?_|refine zd ?_|refine zC ?_|refine zD ?_|refine zE ?_|refine zF ?_|refine zG ?_|refine zH ?_|refine zI ?_|refine zJ ?_|refine zK ?_|refine zL ?_|refine zM ?_|refine zN ?_|refine zO ?_|refine zP ?_|refine zQ ?_|refine zR ?_|refine zS ?_|refine zU ?_|refine zV ?_|refine zW ?_|refine zt (fun hcd => ?_) (fun hcd => ?_)|refine zu (fun hcd => ?_) (fun hcd => ?_)|refine zX ?_|refine zY ?_|refine zv (fun hcd => ?_) (fun hcd => ?_)|refine zk ?_|refine zl ?_|refine zm ?_|refine zn ?_|refine zf ?_|refine zg ?_|refine zj ?_|refine zZ ?_|refine zh ?_|refine zi ?_|refine zo ?_|refine zp ?_|refine zq ?_|refine zr ?_|refine zs ?_)
  refine r_ldN (vs := [.int .i64 (n2 : Int), .int .i64 (d2 : Int)]) ag48 (by decide) (h9z.ext hE16) rfl rfl ?_
  repeat' (first|refine za ?_|refine zA ?_|refine zB ?_|refine zb ?_|refine zc ?_|refine ze ?_|refine zd ?_|refine zC ?_|refine zD ?_|refine zE ?_|refine zF ?_|refine zG ?_|refine zH ?_|refine zI ?_|refine zJ ?_|refine zK ?_|refine zL ?_|refine zM ?_|refine zN ?_|refine zO ?_|refine zP ?_|refine zQ ?_|refine zR ?_|refine zS ?_|refine zU ?_|refine zV ?_|refine zW ?_|refine zt (fun hcd => ?_) (fun hcd => ?_)|refine zu (fun hcd => ?_) (fun hcd => ?_)|refine zX ?_|refine zY ?_|refine zv (fun hcd => ?_) (fun hcd => ?_)|refine zk ?_|refine zl ?_|refine zm ?_|refine zn ?_|refine zf ?_|refine zg ?_|refine zj ?_|refine zZ ?_|refine zh ?_|refine zi ?_|refine zo ?_|refine zp ?_|refine zq ?_|refine zr ?_|refine zs ?_)
  (refine r_call (R := ?_) rfl ?_ ?_; rotate_left 1; focus exact valid_any (n2 : Int) d2 _ ⟨by omega, by omega⟩)
  rintro v w17 ⟨rfl, hE17⟩
  have hX17 := hE16.trans hE17
  repeat' (first|refine za ?_|refine zA ?_|refine zB ?_|refine zb ?_|refine zc ?_|refine ze ?_|refine zd ?_|refine zC ?_|refine zD ?_|refine zE ?_|refine zF ?_|refine zG ?_|refine zH ?_|refine zI ?_|refine zJ ?_|refine zK ?_|refine zL ?_|refine zM ?_|refine zN ?_|refine zO ?_|refine zP ?_|refine zQ ?_|refine zR ?_|refine zS ?_|refine zU ?_|refine zV ?_|refine zW ?_|refine zt (fun hcd => ?_) (fun hcd => ?_)|refine zu (fun hcd => ?_) (fun hcd => ?_)|refine zX ?_|refine zY ?_|refine zv (fun hcd => ?_) (fun hcd => ?_)|refine zk ?_|refine zl ?_|refine zm ?_|refine zn ?_|refine zf ?_|refine zg ?_|refine zj ?_|refine zZ ?_|refine zh ?_|refine zi ?_|refine zo ?_|refine zp ?_|refine zq ?_|refine zr ?_|refine zs ?_)
  refine r_ldN (vs := [.int .i64 (n1 : Int), .int .i64 (d1 : Int)]) ag48 (by decide) (h6z.ext hX17) rfl rfl ?_
  repeat' (first|refine za ?_|refine zA ?_|refine zB ?_|refine zb ?_|refine zc ?_|refine ze ?_|refine zd ?_|refine zC ?_|refine zD ?_|refine zE ?_|refine zF ?_|refine zG ?_|refine zH ?_|refine zI ?_|refine zJ ?_|refine zK ?_|refine zL ?_|refine zM ?_|refine zN ?_|refine zO ?_|refine zP ?_|refine zQ ?_|refine zR ?_|refine zS ?_|refine zU ?_|refine zV ?_|refine zW ?_|refine zt (fun hcd => ?_) (fun hcd => ?_)|refine zu (fun hcd => ?_) (fun hcd => ?_)|refine zX ?_|refine zY ?_|refine zv (fun hcd => ?_) (fun hcd => ?_)|refine zk ?_|refine zl ?_|refine zm ?_|refine zn ?_|refine zf ?_|refine zg ?_|refine zj ?_|refine zZ ?_|refine zh ?_|refine zi ?_|refine zo ?_|refine zp ?_|refine zq ?_|refine zr ?_|refine zs ?_)
  refine r_allocN z48 fun w18 hb18 hE18 hs18 => ?_
  obtain ⟨b31, eb31⟩ : ∃ b, b = w17.heap.size := ⟨_, rfl⟩
  rw [← eb31] at hb18 ⊢
  repeat' (first|refine za ?_|refine zA ?_|refine zB ?_|refine zb ?_|refine zc ?_|refine ze ?_|refine zd ?_|refine zC ?_|refine zD ?_|refine zE ?_|refine zF ?_|refine zG ?_|refine zH ?_|refine zI ?_|refine zJ ?_|refine zK ?_|refine zL ?_|refine zM ?_|refine zN ?_|refine zO ?_|refine zP ?_|refine zQ ?_|refine zR ?_|refine zS ?_|refine zU ?_|refine zV ?_|refine zW ?_|refine zt (fun hcd => ?_) (fun hcd => ?_)|refine zu (fun hcd => ?_) (fun hcd => ?_)|refine zX ?_|refine zY ?_|refine zv (fun hcd => ?_) (fun hcd => ?_)|refine zk ?_|refine zl ?_|refine zm ?_|refine zn ?_|refine zf ?_|refine zg ?_|refine zj ?_|refine zZ ?_|refine zh ?_|refine zi ?_|refine zo ?_|refine zp ?_|refine zq ?_|refine zr ?_|refine zs ?_)
  refine r_stN (ws := [.int .i64 (n1 : Int), .int .i64 (d1 : Int)]) ag48 (by decide) hb18 (by rw [ints_length]; simp) rfl rfl rfl (by intro q hq; simp at hq; rcases hq with rfl | rfl <;> rfl) fun w19 h19 hC19 hs19 => ?_
  have hE19 : Ext w17 w19 := Ch.trans' hE18 hC19 fun k hk e => by omega
  have hX19 := hX17.trans hE19
  have h31lt := h19.lt
  repeat' (first | refine wl_plain ?_ | refine r_move_v (v := .int _ _) rfl ?_ | refine r_move_v (v := .slice _ _ _) rfl ?_ | refine r_move_v (v := .bool _) rfl ?_ | refine r_move_v (v := .pointer _) rfl ?_ | refine r_move_v (v := .map _) rfl ?_ | refine r_move ?_ | refine r_assign_v (v := .int _ _) rfl ?_ | refine r_assign_v (v := .slice _ _ _) rfl ?_ | refine r_assign_v (v := .bool _) rfl ?_ | refine r_assign_v (v := .pointer _) rfl ?_ | refine r_assign_v (v := .map _) rfl ?_ | refine r_assign ?_ | refine wl_nil ?_ | refine wc_seq_ne2 17 rfl ?_ | refine thenQ_normal ?_ | refine wc_region ?_ | refine k_lss_t rfl rfl (by omega) ?_ | refine k_lss_f rfl rfl (by omega) ?_ | refine k_leq_t rfl rfl (by omega) ?_ | refine k_leq_f rfl rfl (by omega) ?_ | refine k_gtr_t rfl rfl (by omega) ?_ | refine k_gtr_f rfl rfl (by omega) ?_ | refine k_geq_t rfl rfl (by omega) ?_ | refine k_geq_f rfl rfl (by omega) ?_ | refine k_eql_t rfl rfl (by omega) ?_ | refine k_eql_f rfl rfl (by omega) ?_ | refine k_neq_t rfl rfl (by omega) ?_ | refine k_neq_f rfl rfl (by omega) ?_ | refine r_lss rfl rfl ?_ | refine r_eql rfl rfl ?_ | refine r_neq rfl rfl ?_ | refine r_leq rfl rfl ?_ | refine r_gtr rfl rfl ?_ | refine r_geq rfl rfl ?_ | refine r_add_in rfl rfl (by omega) ?_ | refine r_sub_in rfl rfl (by omega) ?_ | refine r_len rfl rfl ?_ | (refine r_idx (sz := 1) rfl rfl rfl (by first | rfl | assumption) (by omega) (by omega) ?_) | (refine r_idx (sz := 2) rfl rfl rfl (by first | rfl | assumption) (by omega) (by omega) ?_) | (refine r_ld rfl rfl (by assumption) ?_) | refine r_not_d rfl ?_ | refine r_not rfl ?_ | refine r_nilCheck rfl ?_ | refine r_pick_t rfl ?_ | refine r_pick_f rfl ?_ | refine r_ext rfl rfl ?_ | refine wl_run rfl rfl ?_ | refine wl_pass rfl rfl rfl ?_ | refine wl_dead rfl rfl ?_ | refine wl_if_t rfl rfl (fun hcd => ?_) (fun hcd => ?_) | refine wl_if_f rfl rfl (fun hcd => ?_) (fun hcd => ?_) | refine wc_cond_t rfl ?_ | refine wc_cond_f rfl ?_ | refine wc_cond_d rfl (fun hcd => ?_) (fun hcd => ?_) | refine wc_skip ?_ | refine wc_block ?_ | refine wc_exit ?_ | refine wc_ret ?_ | refine thenQ_ret ?_ | refine thenQ_exit ?_ | refine inBl_here ?_ | refine inBl_out rfl ?_ | refine inBl_normal ?_ | refine inBl_ret ?_)
  refine wc_join (σ := Unit) [22, 25, 27, 29, 31] (fun _ => []) (fun _ w' => Ext w17 w' ∧ Blk w' b31 48 [.int .i64 (n3 : Int), .int .i64 (d3 : Int)]) rfl ?_ ?_
  · repeat' (first|refine za ?_|refine zA ?_|refine zB ?_|refine zb ?_|refine zc ?_|refine ze ?_|refine zd ?_|refine zC ?_|refine zD ?_|refine zE ?_|refine zF ?_|refine zG ?_|refine zH ?_|refine zI ?_|refine zJ ?_|refine zK ?_|refine zL ?_|refine zM ?_|refine zN ?_|refine zO ?_|refine zP ?_|refine zQ ?_|refine zR ?_|refine zS ?_|refine zU ?_|refine zV ?_|refine zW ?_|refine zt (fun hcd => ?_) (fun hcd => ?_)|refine zu (fun hcd => ?_) (fun hcd => ?_)|refine zX ?_|refine zY ?_|refine zv (fun hcd => ?_) (fun hcd => ?_)|refine zk ?_|refine zl ?_|refine zm ?_|refine zn ?_|refine zf ?_|refine zg ?_|refine zj ?_|refine zZ ?_|refine zh ?_|refine zi ?_|refine zo ?_|refine zp ?_|refine zq ?_|refine zr ?_|refine zs ?_)
    refine r_ldN (vs := [.int .i64 (n1 : Int), .int .i64 (d1 : Int)]) ag48 (by decide) (h6z.ext hX19) rfl rfl ?_
    repeat' (first|refine za ?_|refine zA ?_|refine zB ?_|refine zb ?_|refine zc ?_|refine ze ?_|refine zd ?_|refine zC ?_|refine zD ?_|refine zE ?_|refine zF ?_|refine zG ?_|refine zH ?_|refine zI ?_|refine zJ ?_|refine zK ?_|refine zL ?_|refine zM ?_|refine zN ?_|refine zO ?_|refine zP ?_|refine zQ ?_|refine zR ?_|refine zS ?_|refine zU ?_|refine zV ?_|refine zW ?_|refine zt (fun hcd => ?_) (fun hcd => ?_)|refine zu (fun hcd => ?_) (fun hcd => ?_)|refine zX ?_|refine zY ?_|refine zv (fun hcd => ?_) (fun hcd => ?_)|refine zk ?_|refine zl ?_|refine zm ?_|refine zn ?_|refine zf ?_|refine zg ?_|refine zj ?_|refine zZ ?_|refine zh ?_|refine zi ?_|refine zo ?_|refine zp ?_|refine zq ?_|refine zr ?_|refine zs ?_)
    refine r_ldN (vs := [.int .i64 (n2 : Int), .int .i64 (d2 : Int)]) ag48 (by decide) (h9z.ext hX19) rfl rfl ?_
    repeat' (first|refine za ?_|refine zA ?_|refine zB ?_|refine zb ?_|refine zc ?_|refine ze ?_|refine zd ?_|refine zC ?_|refine zD ?_|refine zE ?_|refine zF ?_|refine zG ?_|refine zH ?_|refine zI ?_|refine zJ ?_|refine zK ?_|refine zL ?_|refine zM ?_|refine zN ?_|refine zO ?_|refine zP ?_|refine zQ ?_|refine zR ?_|refine zS ?_|refine zU ?_|refine zV ?_|refine zW ?_|refine zt (fun hcd => ?_) (fun hcd => ?_)|refine zu (fun hcd => ?_) (fun hcd => ?_)|refine zX ?_|refine zY ?_|refine zv (fun hcd => ?_) (fun hcd => ?_)|refine zk ?_|refine zl ?_|refine zm ?_|refine zn ?_|refine zf ?_|refine zg ?_|refine zj ?_|refine zZ ?_|refine zh ?_|refine zi ?_|refine zo ?_|refine zp ?_|refine zq ?_|refine zr ?_|refine zs ?_)
    (refine r_call (R := ?_) rfl ?_ ?_; rotate_left 1; focus exact less_any (n1 : Int) d1 n2 d2 _ ⟨by omega, by omega⟩ ⟨by omega, by omega⟩)
    rintro v w20 ⟨hv, hE20⟩
    by_cases c : n1 * d2 < n2 * d1
    · have c' : (n1 : Int) * d2 < n2 * d1 := by exact_mod_cast c
      rw [decide_eq_true c'] at hv
      subst hv
      obtain ⟨e1, e2⟩ := hlt c
      repeat' (first|refine za ?_|refine zA ?_|refine zB ?_|refine zb ?_|refine zc ?_|refine ze ?_|refine zd ?_|refine zC ?_|refine zD ?_|refine zE ?_|refine zF ?_|refine zG ?_|refine zH ?_|refine zI ?_|refine zJ ?_|refine zK ?_|refine zL ?_|refine zM ?_|refine zN ?_|refine zO ?_|refine zP ?_|refine zQ ?_|refine zR ?_|refine zS ?_|refine zU ?_|refine zV ?_|refine zW ?_|refine zt (fun hcd => ?_) (fun hcd => ?_)|refine zu (fun hcd => ?_) (fun hcd => ?_)|refine zX ?_|refine zY ?_|refine zv (fun hcd => ?_) (fun hcd => ?_)|refine zk ?_|refine zl ?_|refine zm ?_|refine zn ?_|refine zf ?_|refine zg ?_|refine zj ?_|refine zZ ?_|refine zh ?_|refine zi ?_|refine zo ?_|refine zp ?_|refine zq ?_|refine zr ?_|refine zs ?_)
      refine r_ldN (vs := [.int .i64 (n2 : Int), .int .i64 (d2 : Int)]) ag48 (by decide) (h9z.ext (hX19.trans hE20)) rfl rfl ?_
      repeat' (first|refine za ?_|refine zA ?_|refine zB ?_|refine zb ?_|refine zc ?_|refine ze ?_|refine zd ?_|refine zC ?_|refine zD ?_|refine zE ?_|refine zF ?_|refine zG ?_|refine zH ?_|refine zI ?_|refine zJ ?_|refine zK ?_|refine zL ?_|refine zM ?_|refine zN ?_|refine zO ?_|refine zP ?_|refine zQ ?_|refine zR ?_|refine zS ?_|refine zU ?_|refine zV ?_|refine zW ?_|refine zt (fun hcd => ?_) (fun hcd => ?_)|refine zu (fun hcd => ?_) (fun hcd => ?_)|refine zX ?_|refine zY ?_|refine zv (fun hcd => ?_) (fun hcd => ?_)|refine zk ?_|refine zl ?_|refine zm ?_|refine zn ?_|refine zf ?_|refine zg ?_|refine zj ?_|refine zZ ?_|refine zh ?_|refine zi ?_|refine zo ?_|refine zp ?_|refine zq ?_|refine zr ?_|refine zs ?_)
      refine r_stN (ws := [.int .i64 (n2 : Int), .int .i64 (d2 : Int)]) ag48 (by decide) (h19.ext hE20) rfl rfl rfl rfl (by intro q hq; simp at hq; rcases hq with rfl | rfl <;> rfl) fun w21 h21 hC21 hs21 => ?_
      repeat' (first|refine za ?_|refine zA ?_|refine zB ?_|refine zb ?_|refine zc ?_|refine ze ?_|refine zd ?_|refine zC ?_|refine zD ?_|refine zE ?_|refine zF ?_|refine zG ?_|refine zH ?_|refine zI ?_|refine zJ ?_|refine zK ?_|refine zL ?_|refine zM ?_|refine zN ?_|refine zO ?_|refine zP ?_|refine zQ ?_|refine zR ?_|refine zS ?_|refine zU ?_|refine zV ?_|refine zW ?_|refine zt (fun hcd => ?_) (fun hcd => ?_)|refine zu (fun hcd => ?_) (fun hcd => ?_)|refine zX ?_|refine zY ?_|refine zv (fun hcd => ?_) (fun hcd => ?_)|refine zk ?_|refine zl ?_|refine zm ?_|refine zn ?_|refine zf ?_|refine zg ?_|refine zj ?_|refine zZ ?_|refine zh ?_|refine zi ?_|refine zo ?_|refine zp ?_|refine zq ?_|refine zr ?_|refine zs ?_)
      exact ⟨(), trivial, Ch.trans' (hE19.trans hE20) hC21 (fun k hk e => by omega), by rw [e1, e2]; exact h21⟩
    · have c' : ¬ (n1 : Int) * d2 < n2 * d1 := by intro h; exact c (by exact_mod_cast h)
      rw [decide_eq_false c'] at hv
      subst hv
      obtain ⟨e1, e2⟩ := hge c
      repeat' (first|refine za ?_|refine zA ?_|refine zB ?_|refine zb ?_|refine zc ?_|refine ze ?_|refine zd ?_|refine zC ?_|refine zD ?_|refine zE ?_|refine zF ?_|refine zG ?_|refine zH ?_|refine zI ?_|refine zJ ?_|refine zK ?_|refine zL ?_|refine zM ?_|refine zN ?_|refine zO ?_|refine zP ?_|refine zQ ?_|refine zR ?_|refine zS ?_|refine zU ?_|refine zV ?_|refine zW ?_|refine zt (fun hcd => ?_) (fun hcd => ?_)|refine zu (fun hcd => ?_) (fun hcd => ?_)|refine zX ?_|refine zY ?_|refine zv (fun hcd => ?_) (fun hcd => ?_)|refine zk ?_|refine zl ?_|refine zm ?_|refine zn ?_|refine zf ?_|refine zg ?_|refine zj ?_|refine zZ ?_|refine zh ?_|refine zi ?_|refine zo ?_|refine zp ?_|refine zq ?_|refine zr ?_|refine zs ?_)
      exact ⟨(), trivial, hE19.trans hE20, by rw [e1, e2]; exact h19.ext hE20⟩
  rintro _ w20 x20 ⟨hE20, h20⟩
  have hX20 := hX17.trans hE20
  have hs20 := hX20.size
  repeat' (first|refine za ?_|refine zA ?_|refine zB ?_|refine zb ?_|refine zc ?_|refine ze ?_|refine zd ?_|refine zC ?_|refine zD ?_|refine zE ?_|refine zF ?_|refine zG ?_|refine zH ?_|refine zI ?_|refine zJ ?_|refine zK ?_|refine zL ?_|refine zM ?_|refine zN ?_|refine zO ?_|refine zP ?_|refine zQ ?_|refine zR ?_|refine zS ?_|refine zU ?_|refine zV ?_|refine zW ?_|refine zt (fun hcd => ?_) (fun hcd => ?_)|refine zu (fun hcd => ?_) (fun hcd => ?_)|refine zX ?_|refine zY ?_|refine zv (fun hcd => ?_) (fun hcd => ?_)|refine zk ?_|refine zl ?_|refine zm ?_|refine zn ?_|refine zf ?_|refine zg ?_|refine zj ?_|refine zZ ?_|refine zh ?_|refine zi ?_|refine zo ?_|refine zp ?_|refine zq ?_|refine zr ?_|refine zs ?_)
  refine r_ldN (vs := [.int .i64 (n3 : Int), .int .i64 (d3 : Int)]) ag48 (by decide) (h12z.ext hX20) rfl rfl ?_
  repeat' (first|refine za ?_|refine zA ?_|refine zB ?_|refine zb ?_|refine zc ?_|refine ze ?_|refine zd ?_|refine zC ?_|refine zD ?_|refine zE ?_|refine zF ?_|refine zG ?_|refine zH ?_|refine zI ?_|refine zJ ?_|refine zK ?_|refine zL ?_|refine zM ?_|refine zN ?_|refine zO ?_|refine zP ?_|refine zQ ?_|refine zR ?_|refine zS ?_|refine zU ?_|refine zV ?_|refine zW ?_|refine zt (fun hcd => ?_) (fun hcd => ?_)|refine zu (fun hcd => ?_) (fun hcd => ?_)|refine zX ?_|refine zY ?_|refine zv (fun hcd => ?_) (fun hcd => ?_)|refine zk ?_|refine zl ?_|refine zm ?_|refine zn ?_|refine zf ?_|refine zg ?_|refine zj ?_|refine zZ ?_|refine zh ?_|refine zi ?_|refine zo ?_|refine zp ?_|refine zq ?_|refine zr ?_|refine zs ?_)
  refine r_ldN (vs := [.int .i64 (n3 : Int), .int .i64 (d3 : Int)]) ag48 (by decide) h20 rfl rfl ?_
  repeat' (first|refine za ?_|refine zA ?_|refine zB ?_|refine zb ?_|refine zc ?_|refine ze ?_|refine zd ?_|refine zC ?_|refine zD ?_|refine zE ?_|refine zF ?_|refine zG ?_|refine zH ?_|refine zI ?_|refine zJ ?_|refine zK ?_|refine zL ?_|refine zM ?_|refine zN ?_|refine zO ?_|refine zP ?_|refine zQ ?_|refine zR ?_|refine zS ?_|refine zU ?_|refine zV ?_|refine zW ?_|refine zt (fun hcd => ?_) (fun hcd => ?_)|refine zu (fun hcd => ?_) (fun hcd => ?_)|refine zX ?_|refine zY ?_|refine zv (fun hcd => ?_) (fun hcd => ?_)|refine zk ?_|refine zl ?_|refine zm ?_|refine zn ?_|refine zf ?_|refine zg ?_|refine zj ?_|refine zZ ?_|refine zh ?_|refine zi ?_|refine zo ?_|refine zp ?_|refine zq ?_|refine zr ?_|refine zs ?_)
  refine r_eqA_t (A := [(n3 : Int), (d3 : Int)]) (B := [(n3 : Int), (d3 : Int)]) eq48 rfl rfl rfl rfl rfl ?_
  repeat' (first|refine za ?_|refine zA ?_|refine zB ?_|refine zb ?_|refine zc ?_|refine ze ?_|refine zd ?_|refine zC ?_|refine zD ?_|refine zE ?_|refine zF ?_|refine zG ?_|refine zH ?_|refine zI ?_|refine zJ ?_|refine zK ?_|refine zL ?_|refine zM ?_|refine zN ?_|refine zO ?_|refine zP ?_|refine zQ ?_|refine zR ?_|refine zS ?_|refine zU ?_|refine zV ?_|refine zW ?_|refine zt (fun hcd => ?_) (fun hcd => ?_)|refine zu (fun hcd => ?_) (fun hcd => ?_)|refine zX ?_|refine zY ?_|refine zv (fun hcd => ?_) (fun hcd => ?_)|refine zk ?_|refine zl ?_|refine zm ?_|refine zn ?_|refine zf ?_|refine zg ?_|refine zj ?_|refine zZ ?_|refine zh ?_|refine zi ?_|refine zo ?_|refine zp ?_|refine zq ?_|refine zr ?_|refine zs ?_)
  (refine r_call (R := ?_) rfl ?_ ?_; rotate_left 1; focus exact list_any _ A _ (hI1.ext hX20))
  rintro vl w21 ⟨hOl, hE21⟩
  rw [List.take_of_length_le (by omega)] at hOl
  have hX21 := hX20.trans hE21
  obtain ⟨ql, cl, rfl, _⟩ := (OwnI.ints hOl).slice
  repeat' (first|refine za ?_|refine zA ?_|refine zB ?_|refine zb ?_|refine zc ?_|refine ze ?_|refine zd ?_|refine zC ?_|refine zD ?_|refine zE ?_|refine zF ?_|refine zG ?_|refine zH ?_|refine zI ?_|refine zJ ?_|refine zK ?_|refine zL ?_|refine zM ?_|refine zN ?_|refine zO ?_|refine zP ?_|refine zQ ?_|refine zR ?_|refine zS ?_|refine zU ?_|refine zV ?_|refine zW ?_|refine zt (fun hcd => ?_) (fun hcd => ?_)|refine zu (fun hcd => ?_) (fun hcd => ?_)|refine zX ?_|refine zY ?_|refine zv (fun hcd => ?_) (fun hcd => ?_)|refine zk ?_|refine zl ?_|refine zm ?_|refine zn ?_|refine zf ?_|refine zg ?_|refine zj ?_|refine zZ ?_|refine zh ?_|refine zi ?_|refine zo ?_|refine zp ?_|refine zq ?_|refine zr ?_|refine zs ?_)
  refine r_append_i el23 hOl (hI2.ext hX21) rfl rfl (by omega) hE21.size fun v22 w22 hO22 hg22 _ _ => ?_
  have hC22 : Ch (fun k => (Value.slice ql A.length cl).ownBlock = some k) w21 w22 := Ch.grown hg22 fun k hk => hk
  have hE22 : Ext w20 w22 := Ch.trans' hE21 hC22 fun k hk e => by have := (World.ownsRow.lt hOl k e).1; omega
  have hX22 := hX20.trans hE22
  obtain ⟨qv, cv, rfl, _⟩ := (OwnI.ints hO22).slice
  repeat' (first|refine za ?_|refine zA ?_|refine zB ?_|refine zb ?_|refine zc ?_|refine ze ?_|refine zd ?_|refine zC ?_|refine zD ?_|refine zE ?_|refine zF ?_|refine zG ?_|refine zH ?_|refine zI ?_|refine zJ ?_|refine zK ?_|refine zL ?_|refine zM ?_|refine zN ?_|refine zO ?_|refine zP ?_|refine zQ ?_|refine zR ?_|refine zS ?_|refine zU ?_|refine zV ?_|refine zW ?_|refine zt (fun hcd => ?_) (fun hcd => ?_)|refine zu (fun hcd => ?_) (fun hcd => ?_)|refine zX ?_|refine zY ?_|refine zv (fun hcd => ?_) (fun hcd => ?_)|refine zk ?_|refine zl ?_|refine zm ?_|refine zn ?_|refine zf ?_|refine zg ?_|refine zj ?_|refine zZ ?_|refine zh ?_|refine zi ?_|refine zo ?_|refine zp ?_|refine zq ?_|refine zr ?_|refine zs ?_)
  (refine r_call (R := ?_) rfl ?_ ?_; rotate_left 1; focus exact ints_any _ _ (A ++ B) (A ++ B) _ (hI3.ext hX22) (OwnI.ints hO22) (by simp; omega) (by simp; omega))
  rintro v w23 ⟨hv, hE23⟩
  rw [decide_eq_true rfl] at hv
  subst hv
  repeat' (first|refine za ?_|refine zA ?_|refine zB ?_|refine zb ?_|refine zc ?_|refine ze ?_|refine zd ?_|refine zC ?_|refine zD ?_|refine zE ?_|refine zF ?_|refine zG ?_|refine zH ?_|refine zI ?_|refine zJ ?_|refine zK ?_|refine zL ?_|refine zM ?_|refine zN ?_|refine zO ?_|refine zP ?_|refine zQ ?_|refine zR ?_|refine zS ?_|refine zU ?_|refine zV ?_|refine zW ?_|refine zt (fun hcd => ?_) (fun hcd => ?_)|refine zu (fun hcd => ?_) (fun hcd => ?_)|refine zX ?_|refine zY ?_|refine zv (fun hcd => ?_) (fun hcd => ?_)|refine zk ?_|refine zl ?_|refine zm ?_|refine zn ?_|refine zf ?_|refine zg ?_|refine zj ?_|refine zZ ?_|refine zh ?_|refine zi ?_|refine zo ?_|refine zp ?_|refine zq ?_|refine zr ?_|refine zs ?_)
  (refine r_call (R := ?_) rfl ?_ ?_; rotate_left 1; focus exact awake_any _)
  rintro v wg ⟨rfl, hEg⟩
  repeat' (first|refine za ?_|refine zA ?_|refine zB ?_|refine zb ?_|refine zc ?_|refine ze ?_|refine zd ?_|refine zC ?_|refine zD ?_|refine zE ?_|refine zF ?_|refine zG ?_|refine zH ?_|refine zI ?_|refine zJ ?_|refine zK ?_|refine zL ?_|refine zM ?_|refine zN ?_|refine zO ?_|refine zP ?_|refine zQ ?_|refine zR ?_|refine zS ?_|refine zU ?_|refine zV ?_|refine zW ?_|refine zt (fun hcd => ?_) (fun hcd => ?_)|refine zu (fun hcd => ?_) (fun hcd => ?_)|refine zX ?_|refine zY ?_|refine zv (fun hcd => ?_) (fun hcd => ?_)|refine zk ?_|refine zl ?_|refine zm ?_|refine zn ?_|refine zf ?_|refine zg ?_|refine zj ?_|refine zZ ?_|refine zh ?_|refine zi ?_|refine zo ?_|refine zp ?_|refine zq ?_|refine zr ?_|refine zs ?_)
  refine post1 (v := .bool true) rfl rfl ?_
  exact ⟨rfl, (((hE0k.trans hEk15).trans hX22).trans hE23).trans hEg⟩
end Go.Proofs.Ytibegggcinonkaa
