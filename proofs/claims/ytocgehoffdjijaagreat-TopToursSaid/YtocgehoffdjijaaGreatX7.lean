/- TopTours, walked. -/
import Derived.Test.YtocgehoffdjijaaGreatX6
namespace Go.Proofs.YtocgehoffdjijaaGreat
open Gv Go.WideMaps
set_option maxRecDepth 20000
theorem fac_six : ∀ i, i < 6 → Od.RW.fac i ≤ 120 := by decide
set_option maxHeartbeats 8000000 in
theorem TopTours_true (n : Int) (v : Value) (D : List (List Int)) (w : World) (h : Tab w v D) :
    Calls Tryz.prog 5 #[.int .i64 n, v] w (Ret fun v w' => v = .bool true ∧ Ext w w') := by
  obtain ⟨qd, cd, rfl, _⟩ := h.slice
  refine calls_of_wc (args := [.int .i64 n, .slice qd D.length cd]) Tryz.func5 rfl ?_ ?_; kernel_rfl
  repeat' (first|refine za ?_|refine zA ?_|refine zB ?_|refine zb ?_|refine zc ?_|refine ze ?_|refine zd ?_|refine zC ?_|refine zD ?_|refine zE ?_|refine zF ?_|refine zG ?_|refine zH ?_|refine zI ?_|refine zJ ?_|refine zK ?_|refine zL ?_|refine zM ?_|refine zN ?_|refine zO ?_|refine zP ?_|refine zQ ?_|refine zR ?_|refine zS ?_|refine zU ?_|refine zV ?_|refine zW ?_|refine zt (fun hcd => ?_) (fun hcd => ?_)|refine zu (fun hcd => ?_) (fun hcd => ?_)|refine zX ?_|refine zY ?_|refine zv (fun hcd => ?_) (fun hcd => ?_)|refine zk ?_|refine zl ?_|refine zm ?_|refine zn ?_|refine zf ?_|refine zg ?_|refine zj ?_|refine zZ ?_|refine zh ?_|refine zi ?_|refine zo ?_|refine zp ?_|refine zq ?_|refine zr ?_|refine zs ?_)
  (refine r_call (R := ?_) rfl ?_ ?_; rotate_left 1; focus exact mod9 n 6 w (by decide))
  rintro v w1 ⟨hv, hw1⟩
  subst w1
  have hb := mod9_bnd n (n := 6) (by decide)
  obtain ⟨m, hm6⟩ : ∃ m : Nat, (IntKind.u64.wrap n) % 6 = m := ⟨_, (Int.toNat_of_nonneg hb.1).symm⟩
  rw [hm6] at hv hb
  subst hv
  have hm6' : m < 6 := by omega
  obtain ⟨N, hN⟩ : ∃ N, N = m + 1 := ⟨_, rfl⟩
  repeat' (first|refine za ?_|refine zA ?_|refine zB ?_|refine zb ?_|refine zc ?_|refine ze ?_|refine zd ?_|refine zC ?_|refine zD ?_|refine zE ?_|refine zF ?_|refine zG ?_|refine zH ?_|refine zI ?_|refine zJ ?_|refine zK ?_|refine zL ?_|refine zM ?_|refine zN ?_|refine zO ?_|refine zP ?_|refine zQ ?_|refine zR ?_|refine zS ?_|refine zU ?_|refine zV ?_|refine zW ?_|refine zt (fun hcd => ?_) (fun hcd => ?_)|refine zu (fun hcd => ?_) (fun hcd => ?_)|refine zX ?_|refine zY ?_|refine zv (fun hcd => ?_) (fun hcd => ?_)|refine zk ?_|refine zl ?_|refine zm ?_|refine zn ?_|refine zf ?_|refine zg ?_|refine zj ?_|refine zZ ?_|refine zh ?_|refine zi ?_|refine zo ?_|refine zp ?_|refine zq ?_|refine zr ?_|refine zs ?_)
  rw [show 1 + (m : Int) = (N : Int) by omega]
  (refine r_call (R := ?_) rfl ?_ ?_; rotate_left 1; focus exact distances_any N (by omega) (by omega) (.slice qd D.length cd) D w h)
  rintro _ w1 ⟨q, c, T, rfl, hTl, hT, hM, hE1⟩
  repeat' (first|refine za ?_|refine zA ?_|refine zB ?_|refine zb ?_|refine zc ?_|refine ze ?_|refine zd ?_|refine zC ?_|refine zD ?_|refine zE ?_|refine zF ?_|refine zG ?_|refine zH ?_|refine zI ?_|refine zJ ?_|refine zK ?_|refine zL ?_|refine zM ?_|refine zN ?_|refine zO ?_|refine zP ?_|refine zQ ?_|refine zR ?_|refine zS ?_|refine zU ?_|refine zV ?_|refine zW ?_|refine zt (fun hcd => ?_) (fun hcd => ?_)|refine zu (fun hcd => ?_) (fun hcd => ?_)|refine zX ?_|refine zY ?_|refine zv (fun hcd => ?_) (fun hcd => ?_)|refine zk ?_|refine zl ?_|refine zm ?_|refine zn ?_|refine zf ?_|refine zg ?_|refine zj ?_|refine zZ ?_|refine zh ?_|refine zi ?_|refine zo ?_|refine zp ?_|refine zq ?_|refine zr ?_|refine zs ?_)
  have hT' : Tab w1 (.slice q T.length c) T := by rw [hTl]; exact hT
  have hBest := Best_any T hM q c w1 hT'
  rw [hTl] at hBest
  (refine r_call (R := ?_) rfl ?_ ?_; rotate_left 1; focus exact hBest)
  rintro _ w2 ⟨u, rfl, hu, hE2⟩
  obtain ⟨qu, cu, rfl, _⟩ := hu.ints.slice
  obtain ⟨LB, hLB⟩ : ∃ LB, LB = lenK T (bestT T) (bestT T).length := ⟨_, rfl⟩
  rw [← hLB]
  have hT2 := hT.ext hE2
  have hE02 := hE1.trans hE2
  repeat' (first|refine za ?_|refine zA ?_|refine zB ?_|refine zb ?_|refine zc ?_|refine ze ?_|refine zd ?_|refine zC ?_|refine zD ?_|refine zE ?_|refine zF ?_|refine zG ?_|refine zH ?_|refine zI ?_|refine zJ ?_|refine zK ?_|refine zL ?_|refine zM ?_|refine zN ?_|refine zO ?_|refine zP ?_|refine zQ ?_|refine zR ?_|refine zS ?_|refine zU ?_|refine zV ?_|refine zW ?_|refine zt (fun hcd => ?_) (fun hcd => ?_)|refine zu (fun hcd => ?_) (fun hcd => ?_)|refine zX ?_|refine zY ?_|refine zv (fun hcd => ?_) (fun hcd => ?_)|refine zk ?_|refine zl ?_|refine zm ?_|refine zn ?_|refine zf ?_|refine zg ?_|refine zj ?_|refine zZ ?_|refine zh ?_|refine zi ?_|refine zo ?_|refine zp ?_|refine zq ?_|refine zr ?_|refine zs ?_)
  have hf120 := fac_six m hm6'
  refine wc_loop [0, 4, 5, 6, 7, 8] (fun (i : Nat) => [(9, .int .i64 (Od.RW.fac (i - 1) : Int)), (10, .int .i64 i)]) (fun i wk => 2 ≤ i ∧ (i = 2 ∨ i ≤ N) ∧ wk = w2) (fun i => N - i) 2 rfl ⟨rfl, rfl, trivial⟩ ⟨by omega, .inl rfl, rfl⟩ ?_
  rintro i wk x ⟨hi, hiN, rfl⟩
  by_cases hin : i < N
  · have hfi := fac_six (i - 1) (by omega)
    have hfs : Od.RW.fac (i - 1) * i = Od.RW.fac (i + 1 - 1) := by
      obtain ⟨j, rfl⟩ : ∃ j, i = j + 1 := ⟨i - 1, by omega⟩
      show Od.RW.fac j * (j + 1) = (j + 1) * Od.RW.fac j
      rw [Nat.mul_comm]
    have hmul : Od.RW.fac (i - 1) * i ≤ 120 * 6 := Nat.mul_le_mul hfi (by omega)
    repeat' (first|refine za ?_|refine zA ?_|refine zB ?_|refine zb ?_|refine zc ?_|refine ze ?_|refine zd ?_|refine zC ?_|refine zD ?_|refine zE ?_|refine zF ?_|refine zG ?_|refine zH ?_|refine zI ?_|refine zJ ?_|refine zK ?_|refine zL ?_|refine zM ?_|refine zN ?_|refine zO ?_|refine zP ?_|refine zQ ?_|refine zR ?_|refine zS ?_|refine zU ?_|refine zV ?_|refine zW ?_|refine zt (fun hcd => ?_) (fun hcd => ?_)|refine zu (fun hcd => ?_) (fun hcd => ?_)|refine zX ?_|refine zY ?_|refine zv (fun hcd => ?_) (fun hcd => ?_)|refine zk ?_|refine zl ?_|refine zm ?_|refine zn ?_|refine zf ?_|refine zg ?_|refine zj ?_|refine zZ ?_|refine zh ?_|refine zi ?_|refine zo ?_|refine zp ?_|refine zq ?_|refine zr ?_|refine zs ?_)
    refine r_mul_n rfl rfl (by omega) hfs ?_
    repeat' (first|refine za ?_|refine zA ?_|refine zB ?_|refine zb ?_|refine zc ?_|refine ze ?_|refine zd ?_|refine zC ?_|refine zD ?_|refine zE ?_|refine zF ?_|refine zG ?_|refine zH ?_|refine zI ?_|refine zJ ?_|refine zK ?_|refine zL ?_|refine zM ?_|refine zN ?_|refine zO ?_|refine zP ?_|refine zQ ?_|refine zR ?_|refine zS ?_|refine zU ?_|refine zV ?_|refine zW ?_|refine zt (fun hcd => ?_) (fun hcd => ?_)|refine zu (fun hcd => ?_) (fun hcd => ?_)|refine zX ?_|refine zY ?_|refine zv (fun hcd => ?_) (fun hcd => ?_)|refine zk ?_|refine zl ?_|refine zm ?_|refine zn ?_|refine zf ?_|refine zg ?_|refine zj ?_|refine zZ ?_|refine zh ?_|refine zi ?_|refine zo ?_|refine zp ?_|refine zq ?_|refine zr ?_|refine zs ?_)
    exact ⟨i + 1, ⟨rfl, rfl, trivial⟩, ⟨by omega, by omega, rfl⟩, by omega⟩
  have hfac : Od.RW.fac (i - 1) = Od.RW.fac m := by
    rcases hiN with rfl | h3
    · rcases (by omega : m = 0 ∨ m = 1) with rfl | rfl <;> rfl
    · congr 1; omega
  rw [hfac]
  repeat' (first|refine za ?_|refine zA ?_|refine zB ?_|refine zb ?_|refine zc ?_|refine ze ?_|refine zd ?_|refine zC ?_|refine zD ?_|refine zE ?_|refine zF ?_|refine zG ?_|refine zH ?_|refine zI ?_|refine zJ ?_|refine zK ?_|refine zL ?_|refine zM ?_|refine zN ?_|refine zO ?_|refine zP ?_|refine zQ ?_|refine zR ?_|refine zS ?_|refine zU ?_|refine zV ?_|refine zW ?_|refine zt (fun hcd => ?_) (fun hcd => ?_)|refine zu (fun hcd => ?_) (fun hcd => ?_)|refine zX ?_|refine zY ?_|refine zv (fun hcd => ?_) (fun hcd => ?_)|refine zk ?_|refine zl ?_|refine zm ?_|refine zn ?_|refine zf ?_|refine zg ?_|refine zj ?_|refine zZ ?_|refine zh ?_|refine zi ?_|refine zo ?_|refine zp ?_|refine zq ?_|refine zr ?_|refine zs ?_)
  have hcnn : ∀ k, k < Od.RW.fac m → 0 ≤ costT T m k ∧ costT T m k ≤ 1000 * (m + 1) := fun k hk => by
    have h3 := stops_tour hm6' hk
    have h4 := (stops_fit hm6' hk).2.2
    exact lenK_b hM (L := 0 :: stops m k) (fun i hi => by rw [hTl, hN]; exact h3.lt i (by rw [← h3.len]; exact hi)) (m + 1) (by simp [h4])
  refine wc_loop3 [0, 5, 6, 7, 8, 9] (fun (k : Nat) (u : Value) (l : Int) => [(4, .bool false), (13, .int .i64 k), (11, u), (12, .int .i64 l)]) (fun k u l wz => k ≤ Od.RW.fac m ∧ Ext wk wz ∧ (k = 0 → l = -1) ∧ (0 < k → ∃ j, j < k ∧ l = costT T m j ∧ Ints wz u (0 :: Od.MD.itm m (j : Nat)) ∧ (∀ i, i < j → costT T m j < costT T m i) ∧ ∀ i, i < k → costT T m j ≤ costT T m i)) (fun k _ _ => Od.RW.fac m - k) 0 (.slice none 0 0) (-1) rfl ⟨rfl, rfl, rfl, rfl, trivial⟩
    ⟨by omega, Ext.refl _, fun _ => rfl, fun h => by omega⟩ ?_
  rintro k u l wz y ⟨hk, hEz, hk0, hkp⟩
  by_cases hkn : k < Od.RW.fac m
  rotate_left 1
  · obtain rfl : k = Od.RW.fac m := by omega
    have hpos := Od.RW.fac_pos m
    obtain ⟨j, hj, rfl, hu2, h1, h2⟩ := hkp hpos
    obtain ⟨e1, e2⟩ := tours_law hM (by omega) hm6' hj h1 h2
    rw [← hLB] at e1
    have hu' := hu.ints.ext hEz
    rw [e2] at hu'
    have hlB : (ni (bestT T)).length = (0 :: Od.MD.itm m (j : Nat)).length := by rw [e2]
    have hil := (Od.MD.itm_ord (n := m) (k := (j : Nat)) (by omega) (by omega) (by omega)).2.2.1
    rw [hlB]
    subst e1
    repeat' (first|refine za ?_|refine zA ?_|refine zB ?_|refine zb ?_|refine zc ?_|refine ze ?_|refine zd ?_|refine zC ?_|refine zD ?_|refine zE ?_|refine zF ?_|refine zG ?_|refine zH ?_|refine zI ?_|refine zJ ?_|refine zK ?_|refine zL ?_|refine zM ?_|refine zN ?_|refine zO ?_|refine zP ?_|refine zQ ?_|refine zR ?_|refine zS ?_|refine zU ?_|refine zV ?_|refine zW ?_|refine zt (fun hcd => ?_) (fun hcd => ?_)|refine zu (fun hcd => ?_) (fun hcd => ?_)|refine zX ?_|refine zY ?_|refine zv (fun hcd => ?_) (fun hcd => ?_)|refine zk ?_|refine zl ?_|refine zm ?_|refine zn ?_|refine zf ?_|refine zg ?_|refine zj ?_|refine zZ ?_|refine zh ?_|refine zi ?_|refine zo ?_|refine zp ?_|refine zq ?_|refine zr ?_|refine zs ?_)
    (refine r_call (R := ?_) rfl ?_ ?_; rotate_left 1; focus exact ints25 _ _ _ _ wz hu' hu2 (by simp; omega) (by simp; omega))
    rintro _ w5 ⟨rfl, hE5⟩
    rw [decide_eq_true rfl]
    repeat' (first|refine za ?_|refine zA ?_|refine zB ?_|refine zb ?_|refine zc ?_|refine ze ?_|refine zd ?_|refine zC ?_|refine zD ?_|refine zE ?_|refine zF ?_|refine zG ?_|refine zH ?_|refine zI ?_|refine zJ ?_|refine zK ?_|refine zL ?_|refine zM ?_|refine zN ?_|refine zO ?_|refine zP ?_|refine zQ ?_|refine zR ?_|refine zS ?_|refine zU ?_|refine zV ?_|refine zW ?_|refine zt (fun hcd => ?_) (fun hcd => ?_)|refine zu (fun hcd => ?_) (fun hcd => ?_)|refine zX ?_|refine zY ?_|refine zv (fun hcd => ?_) (fun hcd => ?_)|refine zk ?_|refine zl ?_|refine zm ?_|refine zn ?_|refine zf ?_|refine zg ?_|refine zj ?_|refine zZ ?_|refine zh ?_|refine zi ?_|refine zo ?_|refine zp ?_|refine zq ?_|refine zr ?_|refine zs ?_)
    (refine r_call (R := ?_) rfl ?_ ?_; rotate_left 1; focus exact nine_any w5)
    rintro _ w6 ⟨rfl, hE6⟩
    repeat' (first|refine za ?_|refine zA ?_|refine zB ?_|refine zb ?_|refine zc ?_|refine ze ?_|refine zd ?_|refine zC ?_|refine zD ?_|refine zE ?_|refine zF ?_|refine zG ?_|refine zH ?_|refine zI ?_|refine zJ ?_|refine zK ?_|refine zL ?_|refine zM ?_|refine zN ?_|refine zO ?_|refine zP ?_|refine zQ ?_|refine zR ?_|refine zS ?_|refine zU ?_|refine zV ?_|refine zW ?_|refine zt (fun hcd => ?_) (fun hcd => ?_)|refine zu (fun hcd => ?_) (fun hcd => ?_)|refine zX ?_|refine zY ?_|refine zv (fun hcd => ?_) (fun hcd => ?_)|refine zk ?_|refine zl ?_|refine zm ?_|refine zn ?_|refine zf ?_|refine zg ?_|refine zj ?_|refine zZ ?_|refine zh ?_|refine zi ?_|refine zo ?_|refine zp ?_|refine zq ?_|refine zr ?_|refine zs ?_)
    refine post1 (v := .bool true) rfl rfl ?_
    exact ⟨rfl, ((hE02.trans hEz).trans hE5).trans hE6⟩
  repeat' (first|refine za ?_|refine zA ?_|refine zB ?_|refine zb ?_|refine zc ?_|refine ze ?_|refine zd ?_|refine zC ?_|refine zD ?_|refine zE ?_|refine zF ?_|refine zG ?_|refine zH ?_|refine zI ?_|refine zJ ?_|refine zK ?_|refine zL ?_|refine zM ?_|refine zN ?_|refine zO ?_|refine zP ?_|refine zQ ?_|refine zR ?_|refine zS ?_|refine zU ?_|refine zV ?_|refine zW ?_|refine zt (fun hcd => ?_) (fun hcd => ?_)|refine zu (fun hcd => ?_) (fun hcd => ?_)|refine zX ?_|refine zY ?_|refine zv (fun hcd => ?_) (fun hcd => ?_)|refine zk ?_|refine zl ?_|refine zm ?_|refine zn ?_|refine zf ?_|refine zg ?_|refine zj ?_|refine zZ ?_|refine zh ?_|refine zi ?_|refine zo ?_|refine zp ?_|refine zq ?_|refine zr ?_|refine zs ?_)
  (refine r_call (R := ?_) rfl ?_ ?_; rotate_left 1; focus exact Od.item_any ((N : Int) - 1) (k : Int) wz)
  rintro v ws ⟨hv, hEs⟩
  have hNm : ((N : Int) - 1).toNat = m := by omega
  have hIs : Od.IsItm ((N : Int) - 1) k := ⟨by omega, by omega, by omega, by rw [hNm]; omega⟩
  obtain ⟨_, o, rfl, ho⟩ := hv.resolve_left fun h => h.1 hIs
  rw [hNm] at ho
  obtain ⟨f1, f2, f3⟩ := stops_fit hm6' hkn
  repeat' (first|refine za ?_|refine zA ?_|refine zB ?_|refine zb ?_|refine zc ?_|refine ze ?_|refine zd ?_|refine zC ?_|refine zD ?_|refine zE ?_|refine zF ?_|refine zG ?_|refine zH ?_|refine zI ?_|refine zJ ?_|refine zK ?_|refine zL ?_|refine zM ?_|refine zN ?_|refine zO ?_|refine zP ?_|refine zQ ?_|refine zR ?_|refine zS ?_|refine zU ?_|refine zV ?_|refine zW ?_|refine zt (fun hcd => ?_) (fun hcd => ?_)|refine zu (fun hcd => ?_) (fun hcd => ?_)|refine zX ?_|refine zY ?_|refine zv (fun hcd => ?_) (fun hcd => ?_)|refine zk ?_|refine zl ?_|refine zm ?_|refine zn ?_|refine zf ?_|refine zg ?_|refine zj ?_|refine zZ ?_|refine zh ?_|refine zi ?_|refine zo ?_|refine zp ?_|refine zq ?_|refine zr ?_|refine zs ?_)
  refine r_buildS1 el27 (u := .int .i64 0) rfl rfl fun w5 h5 hE5 hs5 => ?_
  have ho5 : OwnI w5 ws.heap.size 3 (.slice (some ⟨ws.heap.size, 0, none⟩) 1 1) [0] := h5
  obtain ⟨qo, co, rfl, _⟩ := ho.ints.slice
  have hil := (Od.MD.itm_ord (n := m) (k := (k : Nat)) (by omega) (by omega) (by omega)).2.2.1
  repeat' (first|refine za ?_|refine zA ?_|refine zB ?_|refine zb ?_|refine zc ?_|refine ze ?_|refine zd ?_|refine zC ?_|refine zD ?_|refine zE ?_|refine zF ?_|refine zG ?_|refine zH ?_|refine zI ?_|refine zJ ?_|refine zK ?_|refine zL ?_|refine zM ?_|refine zN ?_|refine zO ?_|refine zP ?_|refine zQ ?_|refine zR ?_|refine zS ?_|refine zU ?_|refine zV ?_|refine zW ?_|refine zt (fun hcd => ?_) (fun hcd => ?_)|refine zu (fun hcd => ?_) (fun hcd => ?_)|refine zX ?_|refine zY ?_|refine zv (fun hcd => ?_) (fun hcd => ?_)|refine zk ?_|refine zl ?_|refine zm ?_|refine zn ?_|refine zf ?_|refine zg ?_|refine zj ?_|refine zZ ?_|refine zh ?_|refine zi ?_|refine zo ?_|refine zp ?_|refine zq ?_|refine zr ?_|refine zs ?_)
  refine r_append_i el27 ho5 (ho.ints.ext hE5) rfl rfl (by simp; omega) hE5.size fun v6 w6 h6 hG6 _ _ => ?_
  have hE6 : Ext ws w6 := Ch.trans' hE5 (Ch.grown hG6 (S := fun k => ws.heap.size ≤ k) fun k e => (World.ownsRow.lt ho5 k e).1) fun k hk e => by omega
  have hcons : [0] ++ Od.MD.itm m (k : Nat) = ni (0 :: stops m k) := by rw [← f1]; rfl
  rw [hcons] at h6
  obtain ⟨q6, c6, rfl, _⟩ := h6.ints.slice
  have hl6 : (ni (0 :: stops m k)).length = (0 :: stops m k).length := ni_len _
  rw [hl6] at h6 ⊢
  have hEw6 := (hEz.trans hEs).trans hE6
  have hLen := Length_any T hM (0 :: stops m k) (by rw [hTl, hN]; exact stops_tour hm6' hkn) q q6 c c6 w6 (by rw [hTl]; exact hT2.ext hEw6) h6.ints
  rw [hTl] at hLen
  repeat' (first|refine za ?_|refine zA ?_|refine zB ?_|refine zb ?_|refine zc ?_|refine ze ?_|refine zd ?_|refine zC ?_|refine zD ?_|refine zE ?_|refine zF ?_|refine zG ?_|refine zH ?_|refine zI ?_|refine zJ ?_|refine zK ?_|refine zL ?_|refine zM ?_|refine zN ?_|refine zO ?_|refine zP ?_|refine zQ ?_|refine zR ?_|refine zS ?_|refine zU ?_|refine zV ?_|refine zW ?_|refine zt (fun hcd => ?_) (fun hcd => ?_)|refine zu (fun hcd => ?_) (fun hcd => ?_)|refine zX ?_|refine zY ?_|refine zv (fun hcd => ?_) (fun hcd => ?_)|refine zk ?_|refine zl ?_|refine zm ?_|refine zn ?_|refine zf ?_|refine zg ?_|refine zj ?_|refine zZ ?_|refine zh ?_|refine zi ?_|refine zo ?_|refine zp ?_|refine zq ?_|refine zr ?_|refine zs ?_)
  (refine r_call (R := ?_) rfl ?_ ?_; rotate_left 1; focus exact hLen)
  rintro _ w7 ⟨rfl, hE7⟩
  have hcost : lenK T (0 :: stops m k) (0 :: stops m k).length = costT T m k := by unfold costT; rw [List.length_cons, f3]
  rw [hcost]
  have hcb := hcnn k hkn
  have hEw7 := hEw6.trans hE7
  have hin7 : Ints w7 (.slice q6 (0 :: stops m k).length c6) (0 :: Od.MD.itm m (k : Nat)) := by
    have := h6.ints.ext hE7
    rw [← hcons] at this
    exact this
  by_cases hkz : k = 0
  · have hl1 := hk0 hkz
    subst hl1
    repeat' (first|refine za ?_|refine zA ?_|refine zB ?_|refine zb ?_|refine zc ?_|refine ze ?_|refine zd ?_|refine zC ?_|refine zD ?_|refine zE ?_|refine zF ?_|refine zG ?_|refine zH ?_|refine zI ?_|refine zJ ?_|refine zK ?_|refine zL ?_|refine zM ?_|refine zN ?_|refine zO ?_|refine zP ?_|refine zQ ?_|refine zR ?_|refine zS ?_|refine zU ?_|refine zV ?_|refine zW ?_|refine zt (fun hcd => ?_) (fun hcd => ?_)|refine zu (fun hcd => ?_) (fun hcd => ?_)|refine zX ?_|refine zY ?_|refine zv (fun hcd => ?_) (fun hcd => ?_)|refine zk ?_|refine zl ?_|refine zm ?_|refine zn ?_|refine zf ?_|refine zg ?_|refine zj ?_|refine zZ ?_|refine zh ?_|refine zi ?_|refine zo ?_|refine zp ?_|refine zq ?_|refine zr ?_|refine zs ?_)
    exact ⟨k + 1, _, _, ⟨rfl, rfl, rfl, rfl, trivial⟩, ⟨by omega, hEw7, fun h => by omega, fun _ => ⟨k, by omega, rfl, hin7, fun i hi => by omega, fun i hi => by rw [show i = k by omega]; exact Int.le_refl _⟩⟩, by omega⟩
  · obtain ⟨j, hj, rfl, hu2, h1, h2⟩ := hkp (by omega)
    have hcj := hcnn j (by omega)
    by_cases hlt : costT T m k < costT T m j
    · repeat' (first|refine za ?_|refine zA ?_|refine zB ?_|refine zb ?_|refine zc ?_|refine ze ?_|refine zd ?_|refine zC ?_|refine zD ?_|refine zE ?_|refine zF ?_|refine zG ?_|refine zH ?_|refine zI ?_|refine zJ ?_|refine zK ?_|refine zL ?_|refine zM ?_|refine zN ?_|refine zO ?_|refine zP ?_|refine zQ ?_|refine zR ?_|refine zS ?_|refine zU ?_|refine zV ?_|refine zW ?_|refine zt (fun hcd => ?_) (fun hcd => ?_)|refine zu (fun hcd => ?_) (fun hcd => ?_)|refine zX ?_|refine zY ?_|refine zv (fun hcd => ?_) (fun hcd => ?_)|refine zk ?_|refine zl ?_|refine zm ?_|refine zn ?_|refine zf ?_|refine zg ?_|refine zj ?_|refine zZ ?_|refine zh ?_|refine zi ?_|refine zo ?_|refine zp ?_|refine zq ?_|refine zr ?_|refine zs ?_)
      refine ⟨k + 1, _, _, ⟨rfl, rfl, rfl, rfl, trivial⟩, ⟨by omega, hEw7, fun h => by omega, fun _ => ⟨k, by omega, rfl, hin7, fun i hi => by have := h2 i hi; omega, fun i hi => ?_⟩⟩, by omega⟩
      by_cases e : i = k
      · rw [e]; exact Int.le_refl _
      · have := h2 i (by omega); omega
    · repeat' (first|refine za ?_|refine zA ?_|refine zB ?_|refine zb ?_|refine zc ?_|refine ze ?_|refine zd ?_|refine zC ?_|refine zD ?_|refine zE ?_|refine zF ?_|refine zG ?_|refine zH ?_|refine zI ?_|refine zJ ?_|refine zK ?_|refine zL ?_|refine zM ?_|refine zN ?_|refine zO ?_|refine zP ?_|refine zQ ?_|refine zR ?_|refine zS ?_|refine zU ?_|refine zV ?_|refine zW ?_|refine zt (fun hcd => ?_) (fun hcd => ?_)|refine zu (fun hcd => ?_) (fun hcd => ?_)|refine zX ?_|refine zY ?_|refine zv (fun hcd => ?_) (fun hcd => ?_)|refine zk ?_|refine zl ?_|refine zm ?_|refine zn ?_|refine zf ?_|refine zg ?_|refine zj ?_|refine zZ ?_|refine zh ?_|refine zi ?_|refine zo ?_|refine zp ?_|refine zq ?_|refine zr ?_|refine zs ?_)
      refine ⟨k + 1, _, _, ⟨rfl, rfl, rfl, rfl, trivial⟩, ⟨by omega, hEw7, fun h => by omega, fun _ => ⟨j, by omega, rfl, hu2.ext (((hEs.trans hE6)).trans hE7), h1, fun i hi => ?_⟩⟩, by omega⟩
      by_cases e : i = k
      · rw [e]; omega
      · exact h2 i (by omega)
end Go.Proofs.YtocgehoffdjijaaGreat
