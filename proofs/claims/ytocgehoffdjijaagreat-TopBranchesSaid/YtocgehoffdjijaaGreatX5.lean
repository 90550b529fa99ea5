/- TopTours, walked. -/
import Derived.Test.YtocgehoffdjijaaGreatWK
import Derived.Test.YtocgehoffdjijaaGreatTP
namespace Go.Proofs.YtocgehoffdjijaaGreat
open Gv Go.WideMaps
set_option maxRecDepth 20000
theorem OwnT.row2 {w : World} {lo hi : Nat} {eo ei : TypeId} {p : Option Addr} {n c : Nat} {T : List (List Int)} (h : OwnT w lo hi eo ei (.slice p n c) T) {i k : Nat} (hi' : i < T.length) (hk : k < T.length) (hik : i ≠ k) :
    ∃ q m q2 m2, Gv.rd w (pidx p i 1) = some (.slice q (T.getD i []).length m) ∧ Gv.rd w (pidx p k 1) = some (.slice q2 (T.getD k []).length m2) ∧ OwnI w lo ei (.slice q (T.getD i []).length m) (T.getD i []) ∧
      (∀ g, (Value.slice q (T.getD i []).length m).ownBlock = some g → lo ≤ g ∧ g < hi) ∧ (∀ g, (Value.slice q2 (T.getD k []).length m2).ownBlock = some g → lo ≤ g ∧ g < hi) ∧
      (∀ w' L', L'.length = (T.getD i []).length → OwnI w' lo ei (.slice q (T.getD i []).length m) L' → w.grownBy w' (Value.slice q (T.getD i []).length m).ownBlock →
        OwnT w' lo hi eo ei (.slice p n c) (T.set i L') ∧ OwnI w' lo ei (.slice q2 (T.getD k []).length m2) (T.getD k []) ∧
        ∀ w'' L'', L''.length = (T.getD k []).length → OwnI w'' lo ei (.slice q2 (T.getD k []).length m2) L'' → w'.grownBy w'' (Value.slice q2 (T.getD k []).length m2).ownBlock → OwnT w'' lo hi eo ei (.slice p n c) ((T.set i L').set k L'')) := by
  obtain ⟨q, m, h1, h2, h3, h4⟩ := h.row hi'
  obtain ⟨q2, m2, g1, g2, g3, g4⟩ := h.row hk
  refine ⟨q, m, q2, m2, h1, g1, h2, h3, g3, fun w' L' hl hO hG => ?_⟩
  have hT' := h4 w' L' hl hO hG
  have hek : (T.set i L').getD k [] = T.getD k [] := by simp [List.getD, hik]
  obtain ⟨q3, m3, k1, k2, k3, k4⟩ := hT'.row (i := k) (by simpa using hk)
  rw [hek] at k1 k2 k3 k4
  have hC : Ch (fun k => (Value.slice q (T.getD i []).length m).ownBlock = some k) w w' := Ch.grown hG fun k hk => hk
  have hrd : Gv.rd w' (pidx p k 1) = some (.slice q2 (T.getD k []).length m2) := by
    obtain ⟨vs, a1, a2, a3, a4, a5, a6⟩ := h
    have hiv : i < vs.length := by omega
    have hu : vs[i]? = some vs[i] := by simp [hiv]
    have hui : Gv.rd w (pidx p i 1) = some vs[i] := a1.sl.rd1 i hu
    rw [h1] at hui
    have hvi : vs[i] = .slice q (T.getD i []).length m := by injection hui with e; exact e.symm
    refine rd_keep g1 hC fun a ha e => ?_
    rw [← hvi] at e
    have hv : (Value.slice p n c).ownBlock = some a.block := by
      cases p with
      | none => cases ha
      | some a0 =>
        cases ha
        show some a0.block = some (a0.add (k * 1)).block
        unfold Addr.add; split <;> rfl
    exact (a5 i _ _ hu e).2 hv
  rw [k1] at hrd
  injection hrd with e
  injection e with e1 e2 e3
  subst e1; subst e3
  exact ⟨hT', k2, fun w'' L'' hl'' hO'' hG'' => k4 w'' L'' hl'' hO'' hG''⟩
theorem miles_set {T : List (List Int)} (hM : Miles T) {i k : Nat} (hik : i < k) (hk : k < T.length) {x : Int} (hx : 0 ≤ x ∧ x ≤ 1000) :
    Miles ((T.set i ((T.getD i []).set k x)).set k ((T.getD k []).set i x)) := by
  have hd : ∀ a b, a < T.length → b < T.length → dT ((T.set i ((T.getD i []).set k x)).set k ((T.getD k []).set i x)) a b = if (a = i ∧ b = k) ∨ (a = k ∧ b = i) then x else dT T a b := by
    intro a b ha hb
    have hra := hM.row i (by omega)
    have hrk := hM.row k hk
    unfold dT
    by_cases h1 : a = k
    · subst h1
      have e : (((T.set i ((T.getD i []).set a x)).set a ((T.getD a []).set i x)).getD a []) = (T.getD a []).set i x := by simp [List.getD, hk]
      rw [e]
      by_cases h2 : b = i
      · subst h2
        rw [if_pos (.inr ⟨rfl, rfl⟩), List.getD_eq_getElem?_getD, List.getElem?_set_self (by omega)]; rfl
      · rw [if_neg (by omega), List.getD_eq_getElem?_getD, List.getElem?_set_ne (Ne.symm h2), ← List.getD_eq_getElem?_getD]
    · have e : (((T.set i ((T.getD i []).set k x)).set k ((T.getD k []).set i x)).getD a []) = (T.set i ((T.getD i []).set k x)).getD a [] := by
        rw [List.getD_eq_getElem?_getD, List.getElem?_set_ne (Ne.symm h1), ← List.getD_eq_getElem?_getD]
      rw [e]
      by_cases h3 : a = i
      · subst h3
        have e2 : (T.set a ((T.getD a []).set k x)).getD a [] = (T.getD a []).set k x := by simp [List.getD, ha]
        rw [e2]
        by_cases h2 : b = k
        · subst h2
          rw [if_pos (.inl ⟨rfl, rfl⟩), List.getD_eq_getElem?_getD, List.getElem?_set_self (by omega)]; rfl
        · rw [if_neg (by omega), List.getD_eq_getElem?_getD, List.getElem?_set_ne (Ne.symm h2), ← List.getD_eq_getElem?_getD]
      · have e3 : (T.set i ((T.getD i []).set k x)).getD a [] = T.getD a [] := by
          rw [List.getD_eq_getElem?_getD, List.getElem?_set_ne (Ne.symm h3), ← List.getD_eq_getElem?_getD]
        rw [if_neg (by omega), e3]
  have hl : ((T.set i ((T.getD i []).set k x)).set k ((T.getD k []).set i x)).length = T.length := by simp
  refine ⟨by rw [hl]; exact hM.n1, by rw [hl]; exact hM.n11, fun a ha => ?_, fun a b ha hb => ?_, fun a b ha hb => ?_, fun a ha => ?_⟩
  · rw [hl] at ha ⊢
    by_cases h1 : a = k
    · subst h1
      have e : (((T.set i ((T.getD i []).set a x)).set a ((T.getD a []).set i x)).getD a []) = (T.getD a []).set i x := by simp [List.getD, hk]
      rw [e, List.length_set]; exact hM.row a ha
    · have e : (((T.set i ((T.getD i []).set k x)).set k ((T.getD k []).set i x)).getD a []) = (T.set i ((T.getD i []).set k x)).getD a [] := by
        rw [List.getD_eq_getElem?_getD, List.getElem?_set_ne (Ne.symm h1), ← List.getD_eq_getElem?_getD]
      rw [e]
      by_cases h3 : a = i
      · subst h3
        have e2 : (T.set a ((T.getD a []).set k x)).getD a [] = (T.getD a []).set k x := by simp [List.getD, ha]
        rw [e2, List.length_set]; exact hM.row a ha
      · rw [List.getD_eq_getElem?_getD, List.getElem?_set_ne (Ne.symm h3), ← List.getD_eq_getElem?_getD]; exact hM.row a ha
  · rw [hl] at ha hb; rw [hd a b ha hb]
    split
    · exact hx
    · exact hM.rng a b ha hb
  · rw [hl] at ha hb; rw [hd a b ha hb, hd b a hb ha]
    by_cases h1 : (a = i ∧ b = k) ∨ (a = k ∧ b = i)
    · rw [if_pos h1, if_pos (by omega)]
    · rw [if_neg h1, if_neg (by omega)]; exact hM.sym a b ha hb
  · rw [hl] at ha; rw [hd a a ha ha, if_neg (by omega)]; exact hM.diag a ha
theorem miles_zero {N : Nat} (h1 : 1 ≤ N) (h11 : N ≤ 11) : Miles (List.replicate N (List.replicate N 0)) := by
  have hr : ∀ i, i < N → (List.replicate N (List.replicate N (0 : Int))).getD i [] = List.replicate N 0 := fun i hi => by simp [List.getD, hi]
  have hd : ∀ i j, i < N → j < N → dT (List.replicate N (List.replicate N 0)) i j = 0 := fun i j hi hj => by unfold dT; rw [hr i hi]; simp [List.getD, hj]
  refine ⟨by simpa, by simpa, fun i hi => ?_, fun i j hi hj => ?_, fun i j hi hj => ?_, fun i hi => ?_⟩
  · simp only [List.length_replicate] at hi ⊢; rw [hr i hi]; simp
  · simp only [List.length_replicate] at hi hj; rw [hd i j hi hj]; omega
  · simp only [List.length_replicate] at hi hj; rw [hd i j hi hj, hd j i hj hi]
  · simp only [List.length_replicate] at hi; rw [hd i i hi hi]
set_option maxHeartbeats 8000000 in
theorem distances_any (N : Nat) (h1 : 1 ≤ N) (h11 : N ≤ 11) (v : Value) (D : List (List Int)) (w : World) (h : Tab w v D) :
    Calls Tryz.prog 22 #[v, .int .i64 (N : Int), .int .i64 1000] w (Ret fun v' w' => ∃ q c T, v' = .slice q N c ∧ T.length = N ∧ Tab w' v' T ∧ Miles T ∧ Ext w w') := by
  obtain ⟨qd, cd, rfl, _⟩ := h.slice
  refine calls_of_wc (args := [.slice qd D.length cd, .int .i64 (N : Int), .int .i64 1000]) Tryz.func22 rfl ?_ ?_; kernel_rfl
  repeat' (first|refine za ?_|refine zB ?_|refine zb ?_|refine zc ?_|refine ze ?_|refine zd ?_|refine zl ?_)
  refine wc_loop2 [0, 1, 2, 6] (fun (i : Nat) (v : Value) => [(7, v), (8, .int .i64 i)]) (fun i v wk => i ≤ N ∧ OwnT wk w.heap.size wk.heap.size 27 3 v (List.replicate i (List.replicate N 0)) ∧ Ext w wk) (fun i _ => N - i) 0 (.slice none 0 0) rfl ⟨rfl, rfl, trivial⟩
    ⟨by omega, OwnT.nil _ _ _ _ _, Ext.refl _⟩ ?_
  rintro i u wk x ⟨hi, hT, hE⟩
  by_cases hin : i < N
  · repeat' (first|refine za ?_|refine zA ?_|refine zb ?_|refine zc ?_|refine ze ?_|refine zd ?_|refine zC ?_|refine zX ?_|refine zk ?_|refine zl ?_)
    refine r_make_i (n := N) el27 rfl rfl (by omega) fun w2 ho2 hE2 hlt2 => ?_
    repeat' (refine za ?_)
    refine r_push el35 rfl (by decide) (hT.ext hE2) ho2 rfl rfl (by simp; omega) hE.size hE2.size fun v' w4 q4 hT4 hG4 hC4 => ?_
    have hE4 : Ext w w4 := Ch.trans' (hE.trans hE2) hC4 fun k hk e => by omega
    have hr : List.replicate i (List.replicate N (0 : Int)) ++ [List.replicate N 0] = List.replicate (i + 1) (List.replicate N 0) := by rw [List.replicate_succ']
    rw [hr] at hT4
    repeat' (first|refine za ?_|refine zA ?_|refine zB ?_|refine zb ?_|refine ze ?_|refine zd ?_|refine zI ?_|refine zh ?_)
    exact ⟨i + 1, v', ⟨rfl, rfl, trivial⟩, ⟨by omega, hT4, hE4⟩, by omega⟩
  obtain rfl : N = i := by omega
  obtain ⟨qt, ct, eu, _⟩ := hT.slice
  rw [List.length_replicate] at eu
  subst eu
  obtain ⟨H, hH⟩ : ∃ H, H = wk.heap.size := ⟨_, rfl⟩
  rw [← hH] at hT
  repeat' (first|refine za ?_|refine zA ?_|refine zB ?_|refine zb ?_|refine zc ?_|refine ze ?_|refine zd ?_|refine zC ?_|refine zY ?_|refine zl ?_|refine zm ?_|refine zg ?_|refine zj ?_)
  refine wc_loop2 [0, 1, 2, 6, 7] (fun (i : Nat) (_ : List (List Int)) => [(9, .int .i64 i)]) (fun i T wz => i ≤ N ∧ T.length = N ∧ Miles T ∧ OwnT wz w.heap.size H 27 3 (.slice qt N ct) T ∧ Ext w wz ∧ H ≤ wz.heap.size) (fun i _ => N - i) 0 (List.replicate N (List.replicate N 0)) rfl ⟨rfl, trivial⟩
    ⟨by omega, by simp, miles_zero h1 h11, hT, hE, by omega⟩ ?_
  rintro i T wz y ⟨hi2, hTl, hM, hTz, hEz, hHz⟩
  by_cases hin2 : i < N
  rotate_left 1
  · repeat' (first|refine za ?_|refine zA ?_|refine zB ?_|refine zb ?_|refine zc ?_|refine ze ?_|refine zd ?_|refine zC ?_|refine zY ?_|refine zm ?_|refine zn ?_|refine zg ?_|refine zj ?_)
    refine post1 (v := .slice qt N ct) rfl rfl ?_
    exact ⟨qt, ct, T, rfl, hTl, hTz.tab, hM, hEz⟩
  repeat' (first|refine za ?_|refine zA ?_|refine zB ?_|refine zb ?_|refine zc ?_|refine ze ?_|refine zd ?_|refine zC ?_|refine zI ?_|refine zX ?_|refine zk ?_|refine zl ?_)
  refine wc_loop2 [0, 1, 2, 6, 7, 9] (fun (k : Nat) (_ : List (List Int)) => [(10, .int .i64 k)]) (fun k T wy => i < k ∧ k ≤ N ∧ T.length = N ∧ Miles T ∧ OwnT wy w.heap.size H 27 3 (.slice qt N ct) T ∧ Ext w wy ∧ H ≤ wy.heap.size) (fun k _ => N - k) (i + 1) T rfl ⟨rfl, trivial⟩
    ⟨by omega, by omega, hTl, hM, hTz, hEz, hHz⟩ ?_
  clear hTl hM hTz hEz hHz
  rintro k T wy y3 ⟨hik, hkN, hTl, hM, hTy, hEy, hHy⟩
  by_cases hin3 : k < N
  rotate_left 1
  · repeat' (first|refine za ?_|refine zA ?_|refine zB ?_|refine zb ?_|refine zc ?_|refine ze ?_|refine zd ?_|refine zC ?_|refine zI ?_|refine zY ?_|refine zm ?_|refine zg ?_|refine zj ?_|refine zh ?_)
    exact ⟨i + 1, T, ⟨rfl, trivial⟩, ⟨by omega, hTl, hM, hTy, hEy, hHy⟩, by omega⟩
  have hDy := h.ext hEy
  repeat' (first|refine wl_plain ?_|refine r_move_v (v := .int _ _) rfl ?_|refine r_assign_v (v := .int _ _) rfl ?_|refine wl_nil ?_|refine wc_seq_ne2 13 rfl ?_|refine thenQ_normal ?_|refine wc_region ?_|refine k_lss_t rfl rfl (by omega) ?_|refine wc_cond_t rfl ?_|refine wc_skip ?_|refine wc_block ?_)
  refine wc_join (σ := Int) [0, 1, 2, 6, 7, 9, 10] (fun a => [(11, .int .i64 a)]) (fun a w' => (0 ≤ a ∧ a ≤ 1000) ∧ w' = wy) rfl ?_ ?_
  · by_cases hiD : i < D.length
    rotate_left 1
    · repeat' (first|refine za ?_|refine zA ?_|refine zb ?_|refine zc ?_|refine ze ?_|refine zd ?_|refine zC ?_|refine zK ?_|refine zR ?_|refine zV ?_|refine zY ?_|refine zk ?_)
      exact ⟨1, ⟨rfl, trivial⟩, by omega, rfl⟩
    obtain ⟨q3, m3, hrd, hR⟩ := hDy.rd hiD
    have hps := h.isSome (by omega)
    by_cases hkR : k < (D.getD i []).length
    · have hc := hR.rd (i := k) hkR
      have hp3 := hR.isSome (by omega)
      repeat' (first|refine za ?_|refine zA ?_|refine zb ?_|refine zc ?_|refine ze ?_|refine zd ?_|refine zC ?_|refine zI ?_|refine zK ?_|refine zL ?_|refine zM ?_|refine zQ ?_|refine zU ?_|refine zX ?_)
      (refine r_call (R := ?_) rfl ?_ ?_; rotate_left 1; focus exact mod9 ((D.getD i []).getD k 0) (1000 + 1) wy (by decide))
      rintro _ w5 ⟨rfl, rfl⟩
      have hb := mod9_bnd ((D.getD i []).getD k 0) (n := 1000 + 1) (by decide)
      repeat' (first|refine za ?_|refine zB ?_|refine zb ?_|refine ze ?_)
      exact ⟨_, ⟨rfl, trivial⟩, by omega, rfl⟩
    · repeat' (first|refine za ?_|refine zA ?_|refine zb ?_|refine zc ?_|refine ze ?_|refine zd ?_|refine zC ?_|refine zK ?_|refine zL ?_|refine zM ?_|refine zQ ?_|refine zU ?_|refine zY ?_|refine zk ?_)
      exact ⟨1, ⟨rfl, trivial⟩, by omega, rfl⟩
  rintro a wx y4 ⟨ha, rfl⟩
  obtain ⟨q1, m1, q2, m2, r1, r2, o1, o2, o3, o4⟩ := OwnT.row2 (hTy.ext (Ext.drew wx)) (i := i) (k := k) (by omega) (by omega) (by omega)
  have hpt := hTy.tab.isSome (by omega)
  have hri := hM.row i (by omega)
  have hrk := hM.row k (by omega)
  have hp1 := o1.ints.isSome (by omega)
  repeat' (refine zc ?_)
  (refine wc_drawn 9 (by kernel_rfl) (by kernel_rfl) ?_; simp only [List.take_succ_cons, List.take_zero, List.drop_succ_cons, List.drop_zero])
  repeat' (first|refine za ?_|refine zA ?_|refine zB ?_|refine zb ?_|refine zc ?_|refine ze ?_|refine zd ?_|refine zL ?_|refine zM ?_)
  refine r_st_i (i := k) (a := a) co3 o1 rfl rfl (by omega) fun w6 h6 hG6 hs6 => ?_
  obtain ⟨t6, p6, n6⟩ := o4 w6 _ (by simp) h6 hG6
  have hp2 := p6.ints.isSome (by omega)
  repeat' (first|refine za ?_|refine zA ?_|refine zb ?_|refine ze ?_|refine zd ?_|refine zL ?_)
  refine r_st_i (i := i) (a := a) co3 p6 rfl rfl (by omega) fun w7 h7 hG7 hs7 => ?_
  have t7 := n6 w7 _ (by simp) h7 hG7
  have hC7 : Ch (fun k => w.heap.size ≤ k) wx.drew w7 := (Ch.grown hG6 fun k e => (o2 k e).1).trans (Ch.grown hG7 fun k e => (o3 k e).1)
  have hE7 : Ext w w7 := Ch.trans' (hEy.trans (Ext.drew wx)) hC7 fun k hk e => by omega
  repeat' (first|refine za ?_|refine zA ?_|refine zB ?_|refine zb ?_|refine ze ?_|refine zd ?_|refine zI ?_|refine zh ?_)
  exact ⟨k + 1, _, ⟨rfl, trivial⟩, ⟨by omega, by omega, by simp [hTl], miles_set hM hik (by omega) ha, t7, hE7, by have := hC7.size; have : wx.drew.heap.size = wx.heap.size := rfl; omega⟩, by omega⟩
end Go.Proofs.YtocgehoffdjijaaGreat
