/- forks: the reference's Above. -/
import Derived.Test.YtkdakleckdkhiaaOk2
namespace Go.Proofs.Ytkdakleckdkhiaa
open Gv
theorem ins_perm (X : List Str) (s : Str) (j : Nat) : (X.take j ++ [s] ++ X.drop j).Perm (X ++ [s]) := by
  have h1 : (X.take j ++ [s] ++ X.drop j).Perm (X.take j ++ (X.drop j ++ [s])) := by
    rw [List.append_assoc]
    exact List.Perm.append_left _ List.perm_append_comm
  rw [← List.append_assoc, List.take_append_drop] at h1
  exact h1
theorem ins_sorted {X : List Str} {s : Str} {j : Nat} (hX : X.Pairwise (· ≤ ·)) (hj : j ≤ X.length) (h1 : ∀ i, i < j → X.getD i [] < s) (h2 : j < X.length → ¬ X.getD j [] < s) : (X.take j ++ [s] ++ X.drop j).Pairwise (· ≤ ·) := by
  have hd : ∀ y ∈ X.drop j, s ≤ y := fun y hy => by
    by_cases hl : j < X.length
    · exact List.le_trans (List.not_lt.1 (h2 hl)) (srt_drop hX hl y hy)
    · rw [List.drop_of_length_le (by omega)] at hy; simp at hy
  have ht : ∀ y ∈ X.take j, y ≤ s := fun y hy => by
    obtain ⟨i, hi, e⟩ := List.getElem_of_mem hy
    have hij : i < j := by rw [List.length_take] at hi; omega
    have := h1 i hij
    rw [List.getElem_take] at e
    rw [show X.getD i [] = y by rw [← e]; simp [List.getD, show i < X.length by omega]] at this
    exact List.le_of_lt this
  rw [List.append_assoc, List.pairwise_append]
  refine ⟨hX.sublist (List.take_sublist j X), ?_, ?_⟩
  · show List.Pairwise _ (s :: X.drop j)
    exact List.pairwise_cons.2 ⟨hd, hX.sublist (List.drop_sublist j X)⟩
  · intro a ha b hb
    rcases List.mem_cons.1 hb with rfl | hb
    · exact ht a ha
    · exact List.le_trans (ht a ha) (hd b hb)
set_option maxRecDepth 20000 in
set_option maxHeartbeats 8000000 in
theorem aboveR_any (x : T) (w : World) (hx : x.size ≤ 10) : Calls Try.prog 36 #[str x.text] w (Ret fun v w' => OwnS w' w.heap.size v (nbS x true) ∧ Ext w w') := by
  refine calls_of_wc (args := [str x.text]) Try.func36 rfl ?_ ?_; kernel_rfl
  repeat' (first|refine za ?_|refine zA ?_|refine zB ?_|refine zb ?_|refine zc ?_|refine ze ?_|refine zd ?_|refine zC ?_|refine zD ?_|refine zE ?_|refine zF ?_|refine zG ?_|refine zH ?_|refine zI ?_|refine zJ ?_|refine zK ?_|refine zL ?_|refine zM ?_|refine zN ?_|refine zO ?_|refine zP ?_|refine zQ ?_|refine zR ?_|refine zS ?_|refine zU ?_|refine zV ?_|refine zW ?_|refine zt (fun hcd => ?_) (fun hcd => ?_)|refine zu (fun hcd => ?_) (fun hcd => ?_)|refine zX ?_|refine zY ?_|refine zv (fun hcd => ?_) (fun hcd => ?_)|refine zk ?_|refine zl ?_|refine zm ?_|refine zn ?_|refine zf ?_|refine zg ?_|refine zj ?_|refine zZ ?_|refine zh ?_|refine zi ?_|refine zo ?_|refine zp ?_|refine zq ?_|refine zr ?_|refine zs ?_)
  refine wc_loop2 [0] (fun (k : Nat) (vo : Value) => [(4, .int .i64 k), (3, vo)]) (fun k vo wk => k ≤ x.size ∧ Ext w wk ∧ ∃ X, OwnS wk w.heap.size vo X ∧ X.Perm (turnT x true k) ∧ X.Pairwise (· ≤ ·)) (fun k _ => x.size - k) 0 (.slice none 0 0) rfl ⟨rfl, rfl, trivial⟩ ⟨by omega, Ext.refl _, [], World.ownsRow_nil _ _ _ _, by simp [turnT_zero], by simp⟩ ?_
  rintro k vo wk xe ⟨hk, hE, X, hO, hP, hSo⟩
  obtain ⟨q, c, e, hqc⟩ := hO.strs.slice
  subst e
  have hXl : X.length ≤ k := by rw [hP.length_eq]; exact turnT_len x true k
  repeat' (first|refine za ?_|refine zA ?_|refine zB ?_|refine zb ?_|refine zc ?_|refine ze ?_|refine zd ?_|refine zC ?_|refine zD ?_|refine zE ?_|refine zF ?_|refine zG ?_|refine zH ?_|refine zI ?_|refine zJ ?_|refine zK ?_|refine zL ?_|refine zM ?_|refine zN ?_|refine zO ?_|refine zP ?_|refine zQ ?_|refine zR ?_|refine zS ?_|refine zU ?_|refine zV ?_|refine zW ?_|refine zt (fun hcd => ?_) (fun hcd => ?_)|refine zu (fun hcd => ?_) (fun hcd => ?_)|refine zX ?_|refine zY ?_|refine zv (fun hcd => ?_) (fun hcd => ?_)|refine zk ?_|refine zl ?_|refine zm ?_|refine zn ?_|refine zf ?_|refine zg ?_|refine zj ?_|refine zZ ?_|refine zh ?_|refine zi ?_|refine zo ?_|refine zp ?_|refine zq ?_|refine zr ?_|refine zs ?_)
  (refine r_call_q (v := ?_) rfl ?_ ?_; rotate_left 1; focus exact forksR_any x wk (by omega))
  by_cases hkx : k < x.size
  rotate_left 1
  · obtain rfl : k = x.size := by omega
    have hfin : X = nbS x true := sortP_eq hP hSo
    subst hfin
    repeat' (first|refine za ?_|refine zA ?_|refine zB ?_|refine zb ?_|refine zc ?_|refine ze ?_|refine zd ?_|refine zC ?_|refine zD ?_|refine zE ?_|refine zF ?_|refine zG ?_|refine zH ?_|refine zI ?_|refine zJ ?_|refine zK ?_|refine zL ?_|refine zM ?_|refine zN ?_|refine zO ?_|refine zP ?_|refine zQ ?_|refine zR ?_|refine zS ?_|refine zU ?_|refine zV ?_|refine zW ?_|refine zt (fun hcd => ?_) (fun hcd => ?_)|refine zu (fun hcd => ?_) (fun hcd => ?_)|refine zX ?_|refine zY ?_|refine zv (fun hcd => ?_) (fun hcd => ?_)|refine zk ?_|refine zl ?_|refine zm ?_|refine zn ?_|refine zf ?_|refine zg ?_|refine zj ?_|refine zZ ?_|refine zh ?_|refine zi ?_|refine zo ?_|refine zp ?_|refine zq ?_|refine zr ?_|refine zs ?_)
    refine post1 (v := .slice q (nbS x true).length c) rfl rfl ?_
    exact ⟨hO, hE⟩
  repeat' (first|refine za ?_|refine zA ?_|refine zB ?_|refine zb ?_|refine zc ?_|refine ze ?_|refine zd ?_|refine zC ?_|refine zD ?_|refine zE ?_|refine zF ?_|refine zG ?_|refine zH ?_|refine zI ?_|refine zJ ?_|refine zK ?_|refine zL ?_|refine zM ?_|refine zN ?_|refine zO ?_|refine zP ?_|refine zQ ?_|refine zR ?_|refine zS ?_|refine zU ?_|refine zV ?_|refine zW ?_|refine zt (fun hcd => ?_) (fun hcd => ?_)|refine zu (fun hcd => ?_) (fun hcd => ?_)|refine zX ?_|refine zY ?_|refine zv (fun hcd => ?_) (fun hcd => ?_)|refine zk ?_|refine zl ?_|refine zm ?_|refine zn ?_|refine zf ?_|refine zg ?_|refine zj ?_|refine zZ ?_|refine zh ?_|refine zi ?_|refine zo ?_|refine zp ?_|refine zq ?_|refine zr ?_|refine zs ?_)
  (refine r_call (R := ?_) rfl ?_ ?_; rotate_left 1; focus exact turnR_any x k true wk hkx (by omega))
  rintro v1 w1 ⟨hE1, s, hv1, hl1, hs1⟩
  cases hy : x.turn k true with
  | none =>
    rw [hy] at hv1
    subst hv1
    repeat' (first|refine za ?_|refine zA ?_|refine zB ?_|refine zb ?_|refine zc ?_|refine ze ?_|refine zd ?_|refine zC ?_|refine zD ?_|refine zE ?_|refine zF ?_|refine zG ?_|refine zH ?_|refine zI ?_|refine zJ ?_|refine zK ?_|refine zL ?_|refine zM ?_|refine zN ?_|refine zO ?_|refine zP ?_|refine zQ ?_|refine zR ?_|refine zS ?_|refine zU ?_|refine zV ?_|refine zW ?_|refine zt (fun hcd => ?_) (fun hcd => ?_)|refine zu (fun hcd => ?_) (fun hcd => ?_)|refine zX ?_|refine zY ?_|refine zv (fun hcd => ?_) (fun hcd => ?_)|refine zk ?_|refine zl ?_|refine zm ?_|refine zn ?_|refine zf ?_|refine zg ?_|refine zj ?_|refine zZ ?_|refine zh ?_|refine zi ?_|refine zo ?_|refine zp ?_|refine zq ?_|refine zr ?_|refine zs ?_)
    exact ⟨k + 1, .slice q X.length c, ⟨rfl, rfl, trivial⟩, ⟨by omega, hE.trans hE1, X, OwnS.ext hO hE1, by rw [turnT_none hy]; exact hP, hSo⟩, by omega⟩
  | some y =>
    rw [hy] at hv1
    subst hv1
    have hsy := hs1 y hy
    have hO1 : OwnS w1 w.heap.size (.slice q X.length c) X := OwnS.ext hO hE1
    have hS1 := hO1.strs
    repeat' (first|refine za ?_|refine zA ?_|refine zB ?_|refine zb ?_|refine zc ?_|refine ze ?_|refine zd ?_|refine zC ?_|refine zD ?_|refine zE ?_|refine zF ?_|refine zG ?_|refine zH ?_|refine zI ?_|refine zJ ?_|refine zK ?_|refine zL ?_|refine zM ?_|refine zN ?_|refine zO ?_|refine zP ?_|refine zQ ?_|refine zR ?_|refine zS ?_|refine zU ?_|refine zV ?_|refine zW ?_|refine zt (fun hcd => ?_) (fun hcd => ?_)|refine zu (fun hcd => ?_) (fun hcd => ?_)|refine zX ?_|refine zY ?_|refine zv (fun hcd => ?_) (fun hcd => ?_)|refine zk ?_|refine zl ?_|refine zm ?_|refine zn ?_|refine zf ?_|refine zg ?_|refine zj ?_|refine zZ ?_|refine zh ?_|refine zi ?_|refine zo ?_|refine zp ?_|refine zq ?_|refine zr ?_|refine zs ?_)
    refine wc_loop [0, 3, 4, 5] (fun (j : Nat) => [(7, .int .i64 j)]) (fun j wj => j ≤ X.length ∧ wj = w1 ∧ ∀ i, i < j → X.getD i [] < s) (fun j => X.length - j) 0 rfl ⟨rfl, trivial⟩ ⟨by omega, rfl, fun i hi => by omega⟩ ?_
    rintro j wj xf ⟨hj, rfl, hall⟩
    have hE1' := hE.trans hE1
    by_cases hgo : j < X.length ∧ X.getD j [] < s
    · have hps := hS1.isSome (by omega)
      have hrd := strs_get0 hS1 hgo.1 (j := (j : Int)) rfl
      have hlt := hgo.2
      have hal2 : ∀ i, i < j + 1 → X.getD i [] < s := fun i hi => by
        by_cases e : i = j
        · subst e; exact hlt
        · exact hall i (by omega)
      generalize hg : X.getD j [] = g at *
      repeat' (first|refine za ?_|refine zA ?_|refine zB ?_|refine zb ?_|refine zc ?_|refine ze ?_|refine zd ?_|refine zC ?_|refine zD ?_|refine zE ?_|refine zF ?_|refine zG ?_|refine zH ?_|refine zI ?_|refine zJ ?_|refine zK ?_|refine zL ?_|refine zM ?_|refine zN ?_|refine zO ?_|refine zP ?_|refine zQ ?_|refine zR ?_|refine zS ?_|refine zU ?_|refine zV ?_|refine zW ?_|refine zt (fun hcd => ?_) (fun hcd => ?_)|refine zu (fun hcd => ?_) (fun hcd => ?_)|refine zX ?_|refine zY ?_|refine zv (fun hcd => ?_) (fun hcd => ?_)|refine zk ?_|refine zl ?_|refine zm ?_|refine zn ?_|refine zf ?_|refine zg ?_|refine zj ?_|refine zZ ?_|refine zh ?_|refine zi ?_|refine zo ?_|refine zp ?_|refine zq ?_|refine zr ?_|refine zs ?_)
      refine r_slss_t (a := g) (b := s) rfl rfl hlt ?_
      repeat' (first|refine za ?_|refine zA ?_|refine zB ?_|refine zb ?_|refine zc ?_|refine ze ?_|refine zd ?_|refine zC ?_|refine zD ?_|refine zE ?_|refine zF ?_|refine zG ?_|refine zH ?_|refine zI ?_|refine zJ ?_|refine zK ?_|refine zL ?_|refine zM ?_|refine zN ?_|refine zO ?_|refine zP ?_|refine zQ ?_|refine zR ?_|refine zS ?_|refine zU ?_|refine zV ?_|refine zW ?_|refine zt (fun hcd => ?_) (fun hcd => ?_)|refine zu (fun hcd => ?_) (fun hcd => ?_)|refine zX ?_|refine zY ?_|refine zv (fun hcd => ?_) (fun hcd => ?_)|refine zk ?_|refine zl ?_|refine zm ?_|refine zn ?_|refine zf ?_|refine zg ?_|refine zj ?_|refine zZ ?_|refine zh ?_|refine zi ?_|refine zo ?_|refine zp ?_|refine zq ?_|refine zr ?_|refine zs ?_)
      exact ⟨j + 1, ⟨rfl, trivial⟩, ⟨by omega, rfl, hal2⟩, by omega⟩
    have hst : j < X.length → ¬ X.getD j [] < s := fun h1 h2 => hgo ⟨h1, h2⟩
    have hins := ins_sorted hSo hj hall hst
    have hinp := (ins_perm X s j).trans (hP.append_right [s])
    rw [hsy, ← turnT_some hy, ← hsy] at hinp
    have p1 := strs_part hS1 (l := 0) (h' := j) (by omega) (by omega)
    have p2 := strs_part hS1 (l := j) (h' := X.length) (by omega) (by omega)
    rw [List.drop_zero, Nat.sub_zero] at p1
    rw [List.take_of_length_le (by simp)] at p2
    have l1 : (X.take j).length = j := by rw [List.length_take]; omega
    by_cases hjX : j < X.length
    · have hps := hS1.isSome (by omega)
      have hrd := strs_get0 hS1 hjX (j := (j : Int)) rfl
      have hnl := hst hjX
      generalize hg : X.getD j [] = g at *
      repeat' (first|refine za ?_|refine zA ?_|refine zB ?_|refine zb ?_|refine zc ?_|refine ze ?_|refine zd ?_|refine zC ?_|refine zD ?_|refine zE ?_|refine zF ?_|refine zG ?_|refine zH ?_|refine zI ?_|refine zJ ?_|refine zK ?_|refine zL ?_|refine zM ?_|refine zN ?_|refine zO ?_|refine zP ?_|refine zQ ?_|refine zR ?_|refine zS ?_|refine zU ?_|refine zV ?_|refine zW ?_|refine zt (fun hcd => ?_) (fun hcd => ?_)|refine zu (fun hcd => ?_) (fun hcd => ?_)|refine zX ?_|refine zY ?_|refine zv (fun hcd => ?_) (fun hcd => ?_)|refine zk ?_|refine zl ?_|refine zm ?_|refine zn ?_|refine zf ?_|refine zg ?_|refine zj ?_|refine zZ ?_|refine zh ?_|refine zi ?_|refine zo ?_|refine zp ?_|refine zq ?_|refine zr ?_|refine zs ?_)
      refine r_slss_f (a := g) (b := s) rfl rfl hnl ?_
      repeat' (first|refine za ?_|refine zA ?_|refine zB ?_|refine zb ?_|refine zc ?_|refine ze ?_|refine zd ?_|refine zC ?_|refine zD ?_|refine zE ?_|refine zF ?_|refine zG ?_|refine zH ?_|refine zI ?_|refine zJ ?_|refine zK ?_|refine zL ?_|refine zM ?_|refine zN ?_|refine zO ?_|refine zP ?_|refine zQ ?_|refine zR ?_|refine zS ?_|refine zU ?_|refine zV ?_|refine zW ?_|refine zt (fun hcd => ?_) (fun hcd => ?_)|refine zu (fun hcd => ?_) (fun hcd => ?_)|refine zX ?_|refine zY ?_|refine zv (fun hcd => ?_) (fun hcd => ?_)|refine zk ?_|refine zl ?_|refine zm ?_|refine zn ?_|refine zf ?_|refine zg ?_|refine zj ?_|refine zZ ?_|refine zh ?_|refine zi ?_|refine zo ?_|refine zp ?_|refine zq ?_|refine zr ?_|refine zs ?_)
      refine r_slice ss32 (l := 0) (h' := j) rfl rfl ⟨_, rfl⟩ (by omega) (by omega) ?_
      repeat' (first|refine za ?_|refine zA ?_|refine zB ?_|refine zb ?_|refine zc ?_|refine ze ?_|refine zd ?_|refine zC ?_|refine zD ?_|refine zE ?_|refine zF ?_|refine zG ?_|refine zH ?_|refine zI ?_|refine zJ ?_|refine zK ?_|refine zL ?_|refine zM ?_|refine zN ?_|refine zO ?_|refine zP ?_|refine zQ ?_|refine zR ?_|refine zS ?_|refine zU ?_|refine zV ?_|refine zW ?_|refine zt (fun hcd => ?_) (fun hcd => ?_)|refine zu (fun hcd => ?_) (fun hcd => ?_)|refine zX ?_|refine zY ?_|refine zv (fun hcd => ?_) (fun hcd => ?_)|refine zk ?_|refine zl ?_|refine zm ?_|refine zn ?_|refine zf ?_|refine zg ?_|refine zj ?_|refine zZ ?_|refine zh ?_|refine zi ?_|refine zo ?_|refine zp ?_|refine zq ?_|refine zr ?_|refine zs ?_)
      refine r_append (base := wj.heap.size) el32 rfl (by decide) (by decide) (World.ownsRow_nil wj _ 9 1) p1 rfl rfl (strs_one _) (by omega) (Nat.le_refl _) ?_
      intro v2 w2 hv2 hg2 _ _
      have hO2 : OwnS w2 wj.heap.size v2 (X.take j) := by unfold OwnS; simpa using hv2
      have hE2 : Ext wj w2 := Ch.grown hg2 fun g hg => by cases hg
      obtain ⟨q2, c2, e2, _⟩ := hO2.strs.slice
      subst e2
      repeat' (first|refine za ?_|refine zA ?_|refine zB ?_|refine zb ?_|refine zc ?_|refine ze ?_|refine zd ?_|refine zC ?_|refine zD ?_|refine zE ?_|refine zF ?_|refine zG ?_|refine zH ?_|refine zI ?_|refine zJ ?_|refine zK ?_|refine zL ?_|refine zM ?_|refine zN ?_|refine zO ?_|refine zP ?_|refine zQ ?_|refine zR ?_|refine zS ?_|refine zU ?_|refine zV ?_|refine zW ?_|refine zt (fun hcd => ?_) (fun hcd => ?_)|refine zu (fun hcd => ?_) (fun hcd => ?_)|refine zX ?_|refine zY ?_|refine zv (fun hcd => ?_) (fun hcd => ?_)|refine zk ?_|refine zl ?_|refine zm ?_|refine zn ?_|refine zf ?_|refine zg ?_|refine zj ?_|refine zZ ?_|refine zh ?_|refine zi ?_|refine zo ?_|refine zp ?_|refine zq ?_|refine zr ?_|refine zs ?_)
      refine r_append1_v (u := str s) el32 rfl (by decide) hO2.own rfl rfl rfl (by rw [strs_len]; omega) hE2.size fun v3 w3 q3 g1 g2 g3 g4 => ?_
      have hO3 : OwnS w3 wj.heap.size v3 (X.take j ++ [s]) := OwnS.of (by rw [strs, List.map_append]; exact g1)
      have hE3 : Ext wj w3 := Ch.ext_new hE2 (Ch.grown g2 fun g hg => (World.ownsRow.lt hO2 g hg).1) (Nat.le_refl _)
      obtain ⟨q3, c3, e3, _⟩ := hO3.strs.slice
      subst e3
      repeat' (first|refine za ?_|refine zA ?_|refine zB ?_|refine zb ?_|refine zc ?_|refine ze ?_|refine zd ?_|refine zC ?_|refine zD ?_|refine zE ?_|refine zF ?_|refine zG ?_|refine zH ?_|refine zI ?_|refine zJ ?_|refine zK ?_|refine zL ?_|refine zM ?_|refine zN ?_|refine zO ?_|refine zP ?_|refine zQ ?_|refine zR ?_|refine zS ?_|refine zU ?_|refine zV ?_|refine zW ?_|refine zt (fun hcd => ?_) (fun hcd => ?_)|refine zu (fun hcd => ?_) (fun hcd => ?_)|refine zX ?_|refine zY ?_|refine zv (fun hcd => ?_) (fun hcd => ?_)|refine zk ?_|refine zl ?_|refine zm ?_|refine zn ?_|refine zf ?_|refine zg ?_|refine zj ?_|refine zZ ?_|refine zh ?_|refine zi ?_|refine zo ?_|refine zp ?_|refine zq ?_|refine zr ?_|refine zs ?_)
      refine r_slice ss32 (l := j) (h' := X.length) rfl ⟨_, rfl⟩ rfl (by omega) (by omega) ?_
      repeat' (first|refine za ?_|refine zA ?_|refine zB ?_|refine zb ?_|refine zc ?_|refine ze ?_|refine zd ?_|refine zC ?_|refine zD ?_|refine zE ?_|refine zF ?_|refine zG ?_|refine zH ?_|refine zI ?_|refine zJ ?_|refine zK ?_|refine zL ?_|refine zM ?_|refine zN ?_|refine zO ?_|refine zP ?_|refine zQ ?_|refine zR ?_|refine zS ?_|refine zU ?_|refine zV ?_|refine zW ?_|refine zt (fun hcd => ?_) (fun hcd => ?_)|refine zu (fun hcd => ?_) (fun hcd => ?_)|refine zX ?_|refine zY ?_|refine zv (fun hcd => ?_) (fun hcd => ?_)|refine zk ?_|refine zl ?_|refine zm ?_|refine zn ?_|refine zf ?_|refine zg ?_|refine zj ?_|refine zZ ?_|refine zh ?_|refine zi ?_|refine zo ?_|refine zp ?_|refine zq ?_|refine zr ?_|refine zs ?_)
      refine r_append (base := wj.heap.size) el32 rfl (by decide) (by decide) hO3 (p2.ext hE3) rfl rfl (strs_one _) (by simp; omega) hE3.size ?_
      intro v4 w4 hv4 hg4 _ _
      have hO4 : OwnS w4 wj.heap.size v4 (X.take j ++ [s] ++ X.drop j) := by
        have e1 : (X.take j ++ [s] ++ X.drop j).length = (X.take j ++ [s]).length + (X.drop j).length := List.length_append
        have e2 : strs (X.take j ++ [s] ++ X.drop j) = strs (X.take j ++ [s]) ++ strs (X.drop j) := List.map_append
        unfold OwnS
        rw [e1, e2]
        exact hv4
      have hE4 : Ext wj w4 := Ch.ext_new hE3 (Ch.grown hg4 fun g hg => (World.ownsRow.lt hO3 g hg).1) (Nat.le_refl _)
      repeat' (first|refine za ?_|refine zA ?_|refine zB ?_|refine zb ?_|refine zc ?_|refine ze ?_|refine zd ?_|refine zC ?_|refine zD ?_|refine zE ?_|refine zF ?_|refine zG ?_|refine zH ?_|refine zI ?_|refine zJ ?_|refine zK ?_|refine zL ?_|refine zM ?_|refine zN ?_|refine zO ?_|refine zP ?_|refine zQ ?_|refine zR ?_|refine zS ?_|refine zU ?_|refine zV ?_|refine zW ?_|refine zt (fun hcd => ?_) (fun hcd => ?_)|refine zu (fun hcd => ?_) (fun hcd => ?_)|refine zX ?_|refine zY ?_|refine zv (fun hcd => ?_) (fun hcd => ?_)|refine zk ?_|refine zl ?_|refine zm ?_|refine zn ?_|refine zf ?_|refine zg ?_|refine zj ?_|refine zZ ?_|refine zh ?_|refine zi ?_|refine zo ?_|refine zp ?_|refine zq ?_|refine zr ?_|refine zs ?_)
      exact ⟨k + 1, v4, ⟨rfl, rfl, trivial⟩, ⟨by omega, hE1'.trans hE4, _, ownsRow_mono hO4 hE1'.size, hinp, hins⟩, by omega⟩
    · repeat' (first|refine za ?_|refine zA ?_|refine zB ?_|refine zb ?_|refine zc ?_|refine ze ?_|refine zd ?_|refine zC ?_|refine zD ?_|refine zE ?_|refine zF ?_|refine zG ?_|refine zH ?_|refine zI ?_|refine zJ ?_|refine zK ?_|refine zL ?_|refine zM ?_|refine zN ?_|refine zO ?_|refine zP ?_|refine zQ ?_|refine zR ?_|refine zS ?_|refine zU ?_|refine zV ?_|refine zW ?_|refine zt (fun hcd => ?_) (fun hcd => ?_)|refine zu (fun hcd => ?_) (fun hcd => ?_)|refine zX ?_|refine zY ?_|refine zv (fun hcd => ?_) (fun hcd => ?_)|refine zk ?_|refine zl ?_|refine zm ?_|refine zn ?_|refine zf ?_|refine zg ?_|refine zj ?_|refine zZ ?_|refine zh ?_|refine zi ?_|refine zo ?_|refine zp ?_|refine zq ?_|refine zr ?_|refine zs ?_)
      refine r_slice ss32 (l := 0) (h' := j) rfl rfl ⟨_, rfl⟩ (by omega) (by omega) ?_
      repeat' (first|refine za ?_|refine zA ?_|refine zB ?_|refine zb ?_|refine zc ?_|refine ze ?_|refine zd ?_|refine zC ?_|refine zD ?_|refine zE ?_|refine zF ?_|refine zG ?_|refine zH ?_|refine zI ?_|refine zJ ?_|refine zK ?_|refine zL ?_|refine zM ?_|refine zN ?_|refine zO ?_|refine zP ?_|refine zQ ?_|refine zR ?_|refine zS ?_|refine zU ?_|refine zV ?_|refine zW ?_|refine zt (fun hcd => ?_) (fun hcd => ?_)|refine zu (fun hcd => ?_) (fun hcd => ?_)|refine zX ?_|refine zY ?_|refine zv (fun hcd => ?_) (fun hcd => ?_)|refine zk ?_|refine zl ?_|refine zm ?_|refine zn ?_|refine zf ?_|refine zg ?_|refine zj ?_|refine zZ ?_|refine zh ?_|refine zi ?_|refine zo ?_|refine zp ?_|refine zq ?_|refine zr ?_|refine zs ?_)
      refine r_append (base := wj.heap.size) el32 rfl (by decide) (by decide) (World.ownsRow_nil wj _ 9 1) p1 rfl rfl (strs_one _) (by omega) (Nat.le_refl _) ?_
      intro v2 w2 hv2 hg2 _ _
      have hO2 : OwnS w2 wj.heap.size v2 (X.take j) := by unfold OwnS; simpa using hv2
      have hE2 : Ext wj w2 := Ch.grown hg2 fun g hg => by cases hg
      obtain ⟨q2, c2, e2, _⟩ := hO2.strs.slice
      subst e2
      repeat' (first|refine za ?_|refine zA ?_|refine zB ?_|refine zb ?_|refine zc ?_|refine ze ?_|refine zd ?_|refine zC ?_|refine zD ?_|refine zE ?_|refine zF ?_|refine zG ?_|refine zH ?_|refine zI ?_|refine zJ ?_|refine zK ?_|refine zL ?_|refine zM ?_|refine zN ?_|refine zO ?_|refine zP ?_|refine zQ ?_|refine zR ?_|refine zS ?_|refine zU ?_|refine zV ?_|refine zW ?_|refine zt (fun hcd => ?_) (fun hcd => ?_)|refine zu (fun hcd => ?_) (fun hcd => ?_)|refine zX ?_|refine zY ?_|refine zv (fun hcd => ?_) (fun hcd => ?_)|refine zk ?_|refine zl ?_|refine zm ?_|refine zn ?_|refine zf ?_|refine zg ?_|refine zj ?_|refine zZ ?_|refine zh ?_|refine zi ?_|refine zo ?_|refine zp ?_|refine zq ?_|refine zr ?_|refine zs ?_)
      refine r_append1_v (u := str s) el32 rfl (by decide) hO2.own rfl rfl rfl (by rw [strs_len]; omega) hE2.size fun v3 w3 q3 g1 g2 g3 g4 => ?_
      have hO3 : OwnS w3 wj.heap.size v3 (X.take j ++ [s]) := OwnS.of (by rw [strs, List.map_append]; exact g1)
      have hE3 : Ext wj w3 := Ch.ext_new hE2 (Ch.grown g2 fun g hg => (World.ownsRow.lt hO2 g hg).1) (Nat.le_refl _)
      obtain ⟨q3, c3, e3, _⟩ := hO3.strs.slice
      subst e3
      repeat' (first|refine za ?_|refine zA ?_|refine zB ?_|refine zb ?_|refine zc ?_|refine ze ?_|refine zd ?_|refine zC ?_|refine zD ?_|refine zE ?_|refine zF ?_|refine zG ?_|refine zH ?_|refine zI ?_|refine zJ ?_|refine zK ?_|refine zL ?_|refine zM ?_|refine zN ?_|refine zO ?_|refine zP ?_|refine zQ ?_|refine zR ?_|refine zS ?_|refine zU ?_|refine zV ?_|refine zW ?_|refine zt (fun hcd => ?_) (fun hcd => ?_)|refine zu (fun hcd => ?_) (fun hcd => ?_)|refine zX ?_|refine zY ?_|refine zv (fun hcd => ?_) (fun hcd => ?_)|refine zk ?_|refine zl ?_|refine zm ?_|refine zn ?_|refine zf ?_|refine zg ?_|refine zj ?_|refine zZ ?_|refine zh ?_|refine zi ?_|refine zo ?_|refine zp ?_|refine zq ?_|refine zr ?_|refine zs ?_)
      refine r_slice ss32 (l := j) (h' := X.length) rfl ⟨_, rfl⟩ rfl (by omega) (by omega) ?_
      repeat' (first|refine za ?_|refine zA ?_|refine zB ?_|refine zb ?_|refine zc ?_|refine ze ?_|refine zd ?_|refine zC ?_|refine zD ?_|refine zE ?_|refine zF ?_|refine zG ?_|refine zH ?_|refine zI ?_|refine zJ ?_|refine zK ?_|refine zL ?_|refine zM ?_|refine zN ?_|refine zO ?_|refine zP ?_|refine zQ ?_|refine zR ?_|refine zS ?_|refine zU ?_|refine zV ?_|refine zW ?_|refine zt (fun hcd => ?_) (fun hcd => ?_)|refine zu (fun hcd => ?_) (fun hcd => ?_)|refine zX ?_|refine zY ?_|refine zv (fun hcd => ?_) (fun hcd => ?_)|refine zk ?_|refine zl ?_|refine zm ?_|refine zn ?_|refine zf ?_|refine zg ?_|refine zj ?_|refine zZ ?_|refine zh ?_|refine zi ?_|refine zo ?_|refine zp ?_|refine zq ?_|refine zr ?_|refine zs ?_)
      refine r_append (base := wj.heap.size) el32 rfl (by decide) (by decide) hO3 (p2.ext hE3) rfl rfl (strs_one _) (by simp; omega) hE3.size ?_
      intro v4 w4 hv4 hg4 _ _
      have hO4 : OwnS w4 wj.heap.size v4 (X.take j ++ [s] ++ X.drop j) := by
        have e1 : (X.take j ++ [s] ++ X.drop j).length = (X.take j ++ [s]).length + (X.drop j).length := List.length_append
        have e2 : strs (X.take j ++ [s] ++ X.drop j) = strs (X.take j ++ [s]) ++ strs (X.drop j) := List.map_append
        unfold OwnS
        rw [e1, e2]
        exact hv4
      have hE4 : Ext wj w4 := Ch.ext_new hE3 (Ch.grown hg4 fun g hg => (World.ownsRow.lt hO3 g hg).1) (Nat.le_refl _)
      repeat' (first|refine za ?_|refine zA ?_|refine zB ?_|refine zb ?_|refine zc ?_|refine ze ?_|refine zd ?_|refine zC ?_|refine zD ?_|refine zE ?_|refine zF ?_|refine zG ?_|refine zH ?_|refine zI ?_|refine zJ ?_|refine zK ?_|refine zL ?_|refine zM ?_|refine zN ?_|refine zO ?_|refine zP ?_|refine zQ ?_|refine zR ?_|refine zS ?_|refine zU ?_|refine zV ?_|refine zW ?_|refine zt (fun hcd => ?_) (fun hcd => ?_)|refine zu (fun hcd => ?_) (fun hcd => ?_)|refine zX ?_|refine zY ?_|refine zv (fun hcd => ?_) (fun hcd => ?_)|refine zk ?_|refine zl ?_|refine zm ?_|refine zn ?_|refine zf ?_|refine zg ?_|refine zj ?_|refine zZ ?_|refine zh ?_|refine zi ?_|refine zo ?_|refine zp ?_|refine zq ?_|refine zr ?_|refine zs ?_)
      exact ⟨k + 1, v4, ⟨rfl, rfl, trivial⟩, ⟨by omega, hE1'.trans hE4, _, ownsRow_mono hO4 hE1'.size, hinp, hins⟩, by omega⟩
end Go.Proofs.Ytkdakleckdkhiaa
