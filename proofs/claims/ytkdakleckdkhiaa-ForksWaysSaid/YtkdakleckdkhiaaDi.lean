/- forks: the reference's Distance and Adjacent. -/
import Derived.Test.YtkdakleckdkhiaaAb
import Derived.Test.YtkdakleckdkhiaaPLv
import Derived.Test.YtkdakleckdkhiaaBools
namespace Go.Proofs.Ytkdakleckdkhiaa
open Gv
theorem srk_inj {t u : T} (hs : t.size = u.size) (h : srk t = srk u) : t = u := by
  have h1 := srk_get t
  have h2 := srk_get u
  rw [hs, h, h2] at h1
  exact (text_inj h1).symm
/-- The trees at distance d from x, and what has been seen by then. -/
structure DL (x : T) (d : Nat) (Q : List T) (B : List Bool) : Prop where
  mem : ∀ t, t ∈ Q ↔ t.size = x.size ∧ dist x t = d
  nod : Q.Nodup
  seen : ∀ t, t.size = x.size → (B.getD (srk t) false = true ↔ dist x t ≤ d)
  len : B.length = (allS x.size).length
structure DN (x : T) (d : Nat) (Q : List T) (i : Nat) (t : T) (k : Nat) (N : List T) (B : List Bool) : Prop where
  mem : ∀ t, t ∈ N → t.size = x.size ∧ dist x t = d + 1
  nod : N.Nodup
  seen : ∀ t, t.size = x.size → (B.getD (srk t) false = true ↔ dist x t ≤ d ∨ t ∈ N)
  len : B.length = (allS x.size).length
  done : ∀ t, t ∈ Q.take i → ∀ z, adj t z → dist x z ≤ d ∨ z ∈ N
  part : ∀ k', k' < k → ∀ z, t.turn (k' / 2) (decide (k' % 2 = 0)) = some z → dist x z ≤ d ∨ z ∈ N
theorem getD_setB {B : List Bool} {i j : Nat} (hi : i < B.length) : (B.set i true).getD j false = if j = i then true else B.getD j false := by
  rw [List.getD_eq_getElem?_getD, List.getElem?_set]
  by_cases c : i = j
  · subst c; rw [if_pos rfl, if_pos hi, if_pos rfl]; rfl
  · rw [if_neg c, if_neg (Ne.symm c), List.getD_eq_getElem?_getD]
theorem DL.zero (x : T) : DL x 0 [x] ((List.replicate (allS x.size).length false).set (srk x) true) := by
  refine ⟨fun t => ?_, by simp, fun t ht => ?_, by simp⟩
  · rw [List.mem_singleton]
    constructor
    · rintro rfl; exact ⟨rfl, dist_self _⟩
    · rintro ⟨h1, h2⟩; exact (dist_zero h1.symm h2).symm
  · rw [getD_setB (by rw [List.length_replicate]; exact srk_lt x)]
    by_cases h : srk t = srk x
    · have := srk_inj ht h
      subst this
      simp [dist_self]
    · rw [if_neg h]
      have h2 : (List.replicate (allS x.size).length false).getD (srk t) false = false := by
        rw [List.getD_eq_getElem?_getD, List.getElem?_replicate]; split <;> rfl
      rw [h2]
      constructor
      · intro e; cases e
      · intro hd
        have := dist_zero ht.symm (by omega)
        subst this
        exact absurd rfl h
theorem DN.start {x : T} {d : Nat} {Q : List T} {B : List Bool} (h : DL x d Q B) (t : T) : DN x d Q 0 t 0 [] B :=
  ⟨by simp, by simp, fun t ht => by rw [h.seen t ht]; simp, h.len, by simp, fun k' hk => by omega⟩
theorem DN.other {x : T} {d : Nat} {Q : List T} {i : Nat} {t : T} {N : List T} {B : List Bool} (h : DN x d Q i t 0 N B) (u : T) : DN x d Q i u 0 N B :=
  ⟨h.mem, h.nod, h.seen, h.len, h.done, fun k' hk => by omega⟩
theorem DN.skip {x : T} {d : Nat} {Q : List T} {i : Nat} {t : T} {k : Nat} {N : List T} {B : List Bool} (h : DN x d Q i t k N B) (hk : ∀ z, t.turn (k / 2) (decide (k % 2 = 0)) = some z → z.size = x.size ∧ B.getD (srk z) false = true) : DN x d Q i t (k + 1) N B := by
  refine ⟨h.mem, h.nod, h.seen, h.len, h.done, fun k' hk' z hz => ?_⟩
  by_cases e : k' = k
  · subst e
    obtain ⟨h1, h2⟩ := hk z hz
    exact (h.seen z h1).1 h2
  · exact h.part k' (by omega) z hz
theorem DN.add {x : T} {d : Nat} {Q : List T} {i : Nat} {t : T} {k : Nat} {N : List T} {B : List Bool} {z : T} (h : DN x d Q i t k N B) (ht : t.size = x.size) (hd : dist x t = d) (hkx : k < 2 * x.size) (hk : t.turn (k / 2) (decide (k % 2 = 0)) = some z) (hB : B.getD (srk z) false = false) :
    DN x d Q i t (k + 1) (N ++ [z]) (B.set (srk z) true) := by
  have hz := turn_size _ _ _ _ hk
  have hzx : z.size = x.size := by omega
  have hadj : adj t z := ⟨k / 2, decide (k % 2 = 0), by omega, hk⟩
  have hd1 := dist_adj (x := x) ht.symm hadj
  have hns : ¬ (dist x z ≤ d ∨ z ∈ N) := fun hc => by
    have := (h.seen z hzx).2 hc
    rw [hB] at this; cases this
  have hdz : dist x z = d + 1 := by
    have : ¬ dist x z ≤ d := fun e => hns (.inl e)
    omega
  have hlt : srk z < B.length := by rw [h.len, ← hzx]; exact srk_lt z
  refine ⟨fun u hu => ?_, ?_, fun u hu => ?_, by rw [List.length_set]; exact h.len, fun u hu v hv => ?_, fun k' hk' v hv => ?_⟩
  · rcases List.mem_append.1 hu with hu | hu
    · exact h.mem u hu
    · rw [List.mem_singleton] at hu; subst hu; exact ⟨hzx, hdz⟩
  · refine List.nodup_append.2 ⟨h.nod, by simp, fun a ha b hb e => ?_⟩
    rw [List.mem_singleton] at hb
    subst hb
    rw [e] at ha
    exact hns (.inr ha)
  · rw [getD_setB hlt, List.mem_append, List.mem_singleton]
    by_cases e : srk u = srk z
    · have := srk_inj (hu.trans hzx.symm) e
      subst this
      simp
    · rw [if_neg e, h.seen u hu]
      constructor
      · rintro (h1 | h1)
        · exact .inl h1
        · exact .inr (.inl h1)
      · rintro (h1 | h1 | rfl)
        · exact .inl h1
        · exact .inr h1
        · exact absurd rfl e
  · rcases h.done u hu v hv with h1 | h1
    · exact .inl h1
    · exact .inr (List.mem_append_left _ h1)
  · by_cases e : k' = k
    · subst e
      rw [hk] at hv
      cases hv
      exact .inr (List.mem_append_right _ (by simp))
    · rcases h.part k' (by omega) v hv with h1 | h1
      · exact .inl h1
      · exact .inr (List.mem_append_left _ h1)
theorem DN.row {x : T} {d : Nat} {Q : List T} {i : Nat} {t : T} {N : List T} {B : List Bool} (h : DN x d Q i t (2 * x.size) N B) (ht : t.size = x.size) (hQ : Q.take (i + 1) = Q.take i ++ [t]) : DN x d Q (i + 1) t 0 N B := by
  refine ⟨h.mem, h.nod, h.seen, h.len, fun u hu z hz => ?_, fun k' hk => by omega⟩
  rw [hQ] at hu
  rcases List.mem_append.1 hu with hu | hu
  · exact h.done u hu z hz
  · rw [List.mem_singleton] at hu
    subst hu
    obtain ⟨k, b, hk, hz⟩ := hz
    cases b with
    | true => exact h.part (2 * k) (by omega) z (by rw [show 2 * k / 2 = k by omega, show decide (2 * k % 2 = 0) = true from decide_eq_true (by omega)]; exact hz)
    | false => exact h.part (2 * k + 1) (by omega) z (by rw [show (2 * k + 1) / 2 = k by omega, show decide ((2 * k + 1) % 2 = 0) = false from decide_eq_false (by omega)]; exact hz)
theorem DN.fin {x : T} {d : Nat} {Q : List T} {t : T} {N : List T} {B : List Bool} (hL : ∀ t, t ∈ Q ↔ t.size = x.size ∧ dist x t = d) (h : DN x d Q Q.length t 0 N B) : DL x (d + 1) N B := by
  have key : ∀ t, t.size = x.size → dist x t = d + 1 → t ∈ N := fun t ht hd => by
    obtain ⟨z, hz, hdz⟩ := dist_pred ht.symm hd
    have hzs := adj_size hz
    have hzQ := (hL z).2 ⟨by omega, hdz⟩
    rcases h.done z (by rw [List.take_length]; exact hzQ) t hz with h1 | h1
    · omega
    · exact h1
  refine ⟨fun t => ⟨h.mem t, fun ⟨h1, h2⟩ => key t h1 h2⟩, h.nod, fun t ht => ?_, h.len⟩
  rw [h.seen t ht]
  constructor
  · rintro (h1 | h1)
    · omega
    · have := (h.mem t h1).2; omega
  · intro h1
    by_cases e : dist x t ≤ d
    · exact .inl e
    · exact .inr (key t ht (by omega))
theorem dist_between {x y : T} : ∀ {e d : Nat} {t : T}, t.size = x.size → dist x t = d + e → ∃ u : T, u.size = x.size ∧ dist x u = d
  | 0, d, t, ht, hd => ⟨t, ht, hd⟩
  | e + 1, d, t, ht, hd => by
    obtain ⟨z, hz, hdz⟩ := dist_pred (k := d + e) ht.symm hd
    have := adj_size hz
    exact dist_between (y := y) (by omega) hdz
theorem DL.some {x y : T} {d : Nat} {Q : List T} {B : List Bool} (h : DL x d Q B) (hy : y.size = x.size) (hd : d ≤ dist x y) : 0 < Q.length := by
  obtain ⟨u, h1, h2⟩ := dist_between (x := x) (y := y) (e := dist x y - d) (d := d) hy (by omega)
  exact List.length_pos_of_mem ((h.mem u).2 ⟨h1, h2⟩)
theorem strs_own_lt {w : World} {v : Value} {L : List Str} (h : Strs w v L) (h0 : 0 < L.length) : ∀ g, v.ownBlock = some g → g < w.heap.size := by
  intro g hg
  obtain ⟨p, c, rfl, _, _, hm⟩ := h
  rcases hm with hm | ⟨b, o, rfl, hb, _⟩
  · omega
  · have : b = g := by simpa [Value.ownBlock] using hg
    omega
theorem sl95 : sliceT Try.prog 95 = true := by kernel_rfl
theorem el95 : elemI Try.prog 95 = some (4, .bool false, 1, 1) := by kernel_rfl
set_option maxRecDepth 20000 in
set_option maxHeartbeats 4000000 in
/-- Adjacent says true of trees that a turn joins. -/
theorem adjR_any (x y : T) (w : World) (hx : x.size ≤ 1000) (h : adj x y) : Calls Try.prog 26 #[str x.text, str y.text] w (Ret fun v w' => v = .bool true ∧ Ext w w') := by
  obtain ⟨k0, b0, hk0, hb0⟩ := h
  refine calls_of_wc (args := [str x.text, str y.text]) Try.func26 rfl ?_ ?_; kernel_rfl
  repeat' (first|refine za ?_|refine zA ?_|refine zB ?_|refine zb ?_|refine zc ?_|refine ze ?_|refine zd ?_|refine zC ?_|refine zD ?_|refine zE ?_|refine zF ?_|refine zG ?_|refine zH ?_|refine zI ?_|refine zJ ?_|refine zK ?_|refine zL ?_|refine zM ?_|refine zN ?_|refine zO ?_|refine zP ?_|refine zQ ?_|refine zR ?_|refine zS ?_|refine zU ?_|refine zV ?_|refine zW ?_|refine zt (fun hcd => ?_) (fun hcd => ?_)|refine zu (fun hcd => ?_) (fun hcd => ?_)|refine zX ?_|refine zY ?_|refine zv (fun hcd => ?_) (fun hcd => ?_)|refine zk ?_|refine zl ?_|refine zm ?_|refine zn ?_|refine zf ?_|refine zg ?_|refine zj ?_|refine zZ ?_|refine zh ?_|refine zi ?_|refine zo ?_|refine zp ?_|refine zq ?_|refine zr ?_|refine zs ?_)
  refine wc_loop [0, 1] (fun (k : Nat) => [(5, .int .i64 k)]) (fun k wk => k ≤ 2 * x.size ∧ Ext w wk ∧ ∀ j, j < k → x.turn (j / 2) (decide (j % 2 = 0)) ≠ some y) (fun k => 2 * x.size - k) 0 rfl ⟨rfl, trivial⟩ ⟨by omega, Ext.refl _, fun j hj => by omega⟩ ?_
  rintro k wk xe ⟨hk, hE, hno⟩
  repeat' (first|refine za ?_|refine zA ?_|refine zB ?_|refine zb ?_|refine zc ?_|refine ze ?_|refine zd ?_|refine zC ?_|refine zD ?_|refine zE ?_|refine zF ?_|refine zG ?_|refine zH ?_|refine zI ?_|refine zJ ?_|refine zK ?_|refine zL ?_|refine zM ?_|refine zN ?_|refine zO ?_|refine zP ?_|refine zQ ?_|refine zR ?_|refine zS ?_|refine zU ?_|refine zV ?_|refine zW ?_|refine zt (fun hcd => ?_) (fun hcd => ?_)|refine zu (fun hcd => ?_) (fun hcd => ?_)|refine zX ?_|refine zY ?_|refine zv (fun hcd => ?_) (fun hcd => ?_)|refine zk ?_|refine zl ?_|refine zm ?_|refine zn ?_|refine zf ?_|refine zg ?_|refine zj ?_|refine zZ ?_|refine zh ?_|refine zi ?_|refine zo ?_|refine zp ?_|refine zq ?_|refine zr ?_|refine zs ?_)
  (refine r_call_q (v := ?_) rfl ?_ ?_; rotate_left 1; focus exact forksR_any x wk (by omega))
  repeat' (first|refine za ?_|refine zA ?_|refine zB ?_|refine zb ?_|refine zc ?_|refine ze ?_|refine zd ?_|refine zC ?_|refine zD ?_|refine zE ?_|refine zF ?_|refine zG ?_|refine zH ?_|refine zI ?_|refine zJ ?_|refine zK ?_|refine zL ?_|refine zM ?_|refine zN ?_|refine zO ?_|refine zP ?_|refine zQ ?_|refine zR ?_|refine zS ?_|refine zU ?_|refine zV ?_|refine zW ?_|refine zt (fun hcd => ?_) (fun hcd => ?_)|refine zu (fun hcd => ?_) (fun hcd => ?_)|refine zX ?_|refine zY ?_|refine zv (fun hcd => ?_) (fun hcd => ?_)|refine zk ?_|refine zl ?_|refine zm ?_|refine zn ?_|refine zf ?_|refine zg ?_|refine zj ?_|refine zZ ?_|refine zh ?_|refine zi ?_|refine zo ?_|refine zp ?_|refine zq ?_|refine zr ?_|refine zs ?_)
  refine r_mul_in rfl rfl (by omega) ?_
  by_cases hkx : k < 2 * x.size
  rotate_left 1
  · exfalso
    cases b0 with
    | true => exact hno (2 * k0) (by omega) (by rw [show 2 * k0 / 2 = k0 by omega, show decide (2 * k0 % 2 = 0) = true from decide_eq_true (by omega)]; exact hb0)
    | false => exact hno (2 * k0 + 1) (by omega) (by rw [show (2 * k0 + 1) / 2 = k0 by omega, show decide ((2 * k0 + 1) % 2 = 0) = false from decide_eq_false (by omega)]; exact hb0)
  repeat' (first|refine za ?_|refine zA ?_|refine zB ?_|refine zb ?_|refine zc ?_|refine ze ?_|refine zd ?_|refine zC ?_|refine zD ?_|refine zE ?_|refine zF ?_|refine zG ?_|refine zH ?_|refine zI ?_|refine zJ ?_|refine zK ?_|refine zL ?_|refine zM ?_|refine zN ?_|refine zO ?_|refine zP ?_|refine zQ ?_|refine zR ?_|refine zS ?_|refine zU ?_|refine zV ?_|refine zW ?_|refine zt (fun hcd => ?_) (fun hcd => ?_)|refine zu (fun hcd => ?_) (fun hcd => ?_)|refine zX ?_|refine zY ?_|refine zv (fun hcd => ?_) (fun hcd => ?_)|refine zk ?_|refine zl ?_|refine zm ?_|refine zn ?_|refine zf ?_|refine zg ?_|refine zj ?_|refine zZ ?_|refine zh ?_|refine zi ?_|refine zo ?_|refine zp ?_|refine zq ?_|refine zr ?_|refine zs ?_)
  refine r_half (m := k) (r := k / 2) rfl rfl rfl (by omega) rfl ?_
  repeat' (first|refine za ?_|refine zA ?_|refine zB ?_|refine zb ?_|refine zc ?_|refine ze ?_|refine zd ?_|refine zC ?_|refine zD ?_|refine zE ?_|refine zF ?_|refine zG ?_|refine zH ?_|refine zI ?_|refine zJ ?_|refine zK ?_|refine zL ?_|refine zM ?_|refine zN ?_|refine zO ?_|refine zP ?_|refine zQ ?_|refine zR ?_|refine zS ?_|refine zU ?_|refine zV ?_|refine zW ?_|refine zt (fun hcd => ?_) (fun hcd => ?_)|refine zu (fun hcd => ?_) (fun hcd => ?_)|refine zX ?_|refine zY ?_|refine zv (fun hcd => ?_) (fun hcd => ?_)|refine zk ?_|refine zl ?_|refine zm ?_|refine zn ?_|refine zf ?_|refine zg ?_|refine zj ?_|refine zZ ?_|refine zh ?_|refine zi ?_|refine zo ?_|refine zp ?_|refine zq ?_|refine zr ?_|refine zs ?_)
  refine r_rem_in rfl rfl (by omega) (by omega) ?_
  obtain ⟨q, hq⟩ : ∃ q, q = k / 2 := ⟨_, rfl⟩
  have hqx : q < x.size := by omega
  rw [← hq]
  have step : ∀ b : Bool, decide (k % 2 = 0) = b → ∀ (w1 : World) (v1 : Value), (Ext wk w1 ∧ ∃ s', v1 = .tuple #[str s', .bool (x.turn q b).isSome] ∧ s'.length ≤ 3 * x.size + 1 ∧ ∀ z, x.turn q b = some z → s' = z.text) → (∃ z, x.turn q b = some z ∧ v1 = .tuple #[str z.text, .bool true] ∧ (z.text ≠ y.text → ∀ j, j < k + 1 → x.turn (j / 2) (decide (j % 2 = 0)) ≠ some y)) ∨ (∃ s', v1 = .tuple #[str s', .bool false] ∧ ∀ j, j < k + 1 → x.turn (j / 2) (decide (j % 2 = 0)) ≠ some y) := by
    rintro b hb w1 v1 ⟨_, s', rfl, _, hs'⟩
    cases hz : x.turn q b with
    | none =>
      refine .inr ⟨s', rfl, fun j hj => ?_⟩
      by_cases e : j = k
      · subst e; rw [← hq, hb, hz]; simp
      · exact hno j (by omega)
    | some z =>
      refine .inl ⟨z, rfl, by rw [hs' z hz]; rfl, fun hne j hj => ?_⟩
      by_cases e : j = k
      · subst e; rw [← hq, hb, hz]; intro e2; cases e2; exact hne rfl
      · exact hno j (by omega)
  rcases Nat.mod_two_eq_zero_or_one k with hp | hp
  · repeat' (first|refine za ?_|refine zA ?_|refine zB ?_|refine zb ?_|refine zc ?_|refine ze ?_|refine zd ?_|refine zC ?_|refine zD ?_|refine zE ?_|refine zF ?_|refine zG ?_|refine zH ?_|refine zI ?_|refine zJ ?_|refine zK ?_|refine zL ?_|refine zM ?_|refine zN ?_|refine zO ?_|refine zP ?_|refine zQ ?_|refine zR ?_|refine zS ?_|refine zU ?_|refine zV ?_|refine zW ?_|refine zt (fun hcd => ?_) (fun hcd => ?_)|refine zu (fun hcd => ?_) (fun hcd => ?_)|refine zX ?_|refine zY ?_|refine zv (fun hcd => ?_) (fun hcd => ?_)|refine zk ?_|refine zl ?_|refine zm ?_|refine zn ?_|refine zf ?_|refine zg ?_|refine zj ?_|refine zZ ?_|refine zh ?_|refine zi ?_|refine zo ?_|refine zp ?_|refine zq ?_|refine zr ?_|refine zs ?_)
    (refine r_call (R := ?_) rfl ?_ ?_; rotate_left 1; focus exact turnR_any x q true wk hqx hx)
    rintro v1 w1 h1
    have hE1 := h1.1
    rcases step true (decide_eq_true hp) w1 v1 h1 with ⟨z, hz, rfl, hne⟩ | ⟨s', rfl, hn2⟩
    · by_cases hzy : z.text = y.text
      · repeat' (first|refine za ?_|refine zA ?_|refine zB ?_|refine zb ?_|refine zc ?_|refine ze ?_|refine zd ?_|refine zC ?_|refine zD ?_|refine zE ?_|refine zF ?_|refine zG ?_|refine zH ?_|refine zI ?_|refine zJ ?_|refine zK ?_|refine zL ?_|refine zM ?_|refine zN ?_|refine zO ?_|refine zP ?_|refine zQ ?_|refine zR ?_|refine zS ?_|refine zU ?_|refine zV ?_|refine zW ?_|refine zt (fun hcd => ?_) (fun hcd => ?_)|refine zu (fun hcd => ?_) (fun hcd => ?_)|refine zX ?_|refine zY ?_|refine zv (fun hcd => ?_) (fun hcd => ?_)|refine zk ?_|refine zl ?_|refine zm ?_|refine zn ?_|refine zf ?_|refine zg ?_|refine zj ?_|refine zZ ?_|refine zh ?_|refine zi ?_|refine zo ?_|refine zp ?_|refine zq ?_|refine zr ?_|refine zs ?_)
        refine r_seql_v (a := z.text) (b := y.text) (c := true) rfl rfl (decide_eq_true hzy) ?_
        repeat' (first|refine za ?_|refine zA ?_|refine zB ?_|refine zb ?_|refine zc ?_|refine ze ?_|refine zd ?_|refine zC ?_|refine zD ?_|refine zE ?_|refine zF ?_|refine zG ?_|refine zH ?_|refine zI ?_|refine zJ ?_|refine zK ?_|refine zL ?_|refine zM ?_|refine zN ?_|refine zO ?_|refine zP ?_|refine zQ ?_|refine zR ?_|refine zS ?_|refine zU ?_|refine zV ?_|refine zW ?_|refine zt (fun hcd => ?_) (fun hcd => ?_)|refine zu (fun hcd => ?_) (fun hcd => ?_)|refine zX ?_|refine zY ?_|refine zv (fun hcd => ?_) (fun hcd => ?_)|refine zk ?_|refine zl ?_|refine zm ?_|refine zn ?_|refine zf ?_|refine zg ?_|refine zj ?_|refine zZ ?_|refine zh ?_|refine zi ?_|refine zo ?_|refine zp ?_|refine zq ?_|refine zr ?_|refine zs ?_)
        refine post1 (v := .bool true) rfl rfl ?_
        exact ⟨rfl, hE.trans hE1⟩
      · repeat' (first|refine za ?_|refine zA ?_|refine zB ?_|refine zb ?_|refine zc ?_|refine ze ?_|refine zd ?_|refine zC ?_|refine zD ?_|refine zE ?_|refine zF ?_|refine zG ?_|refine zH ?_|refine zI ?_|refine zJ ?_|refine zK ?_|refine zL ?_|refine zM ?_|refine zN ?_|refine zO ?_|refine zP ?_|refine zQ ?_|refine zR ?_|refine zS ?_|refine zU ?_|refine zV ?_|refine zW ?_|refine zt (fun hcd => ?_) (fun hcd => ?_)|refine zu (fun hcd => ?_) (fun hcd => ?_)|refine zX ?_|refine zY ?_|refine zv (fun hcd => ?_) (fun hcd => ?_)|refine zk ?_|refine zl ?_|refine zm ?_|refine zn ?_|refine zf ?_|refine zg ?_|refine zj ?_|refine zZ ?_|refine zh ?_|refine zi ?_|refine zo ?_|refine zp ?_|refine zq ?_|refine zr ?_|refine zs ?_)
        refine r_seql_v (a := z.text) (b := y.text) (c := false) rfl rfl (decide_eq_false hzy) ?_
        repeat' (first|refine za ?_|refine zA ?_|refine zB ?_|refine zb ?_|refine zc ?_|refine ze ?_|refine zd ?_|refine zC ?_|refine zD ?_|refine zE ?_|refine zF ?_|refine zG ?_|refine zH ?_|refine zI ?_|refine zJ ?_|refine zK ?_|refine zL ?_|refine zM ?_|refine zN ?_|refine zO ?_|refine zP ?_|refine zQ ?_|refine zR ?_|refine zS ?_|refine zU ?_|refine zV ?_|refine zW ?_|refine zt (fun hcd => ?_) (fun hcd => ?_)|refine zu (fun hcd => ?_) (fun hcd => ?_)|refine zX ?_|refine zY ?_|refine zv (fun hcd => ?_) (fun hcd => ?_)|refine zk ?_|refine zl ?_|refine zm ?_|refine zn ?_|refine zf ?_|refine zg ?_|refine zj ?_|refine zZ ?_|refine zh ?_|refine zi ?_|refine zo ?_|refine zp ?_|refine zq ?_|refine zr ?_|refine zs ?_)
        exact ⟨k + 1, ⟨rfl, trivial⟩, ⟨by omega, hE.trans hE1, hne hzy⟩, by omega⟩
    · repeat' (first|refine za ?_|refine zA ?_|refine zB ?_|refine zb ?_|refine zc ?_|refine ze ?_|refine zd ?_|refine zC ?_|refine zD ?_|refine zE ?_|refine zF ?_|refine zG ?_|refine zH ?_|refine zI ?_|refine zJ ?_|refine zK ?_|refine zL ?_|refine zM ?_|refine zN ?_|refine zO ?_|refine zP ?_|refine zQ ?_|refine zR ?_|refine zS ?_|refine zU ?_|refine zV ?_|refine zW ?_|refine zt (fun hcd => ?_) (fun hcd => ?_)|refine zu (fun hcd => ?_) (fun hcd => ?_)|refine zX ?_|refine zY ?_|refine zv (fun hcd => ?_) (fun hcd => ?_)|refine zk ?_|refine zl ?_|refine zm ?_|refine zn ?_|refine zf ?_|refine zg ?_|refine zj ?_|refine zZ ?_|refine zh ?_|refine zi ?_|refine zo ?_|refine zp ?_|refine zq ?_|refine zr ?_|refine zs ?_)
      exact ⟨k + 1, ⟨rfl, trivial⟩, ⟨by omega, hE.trans hE1, hn2⟩, by omega⟩
  · repeat' (first|refine za ?_|refine zA ?_|refine zB ?_|refine zb ?_|refine zc ?_|refine ze ?_|refine zd ?_|refine zC ?_|refine zD ?_|refine zE ?_|refine zF ?_|refine zG ?_|refine zH ?_|refine zI ?_|refine zJ ?_|refine zK ?_|refine zL ?_|refine zM ?_|refine zN ?_|refine zO ?_|refine zP ?_|refine zQ ?_|refine zR ?_|refine zS ?_|refine zU ?_|refine zV ?_|refine zW ?_|refine zt (fun hcd => ?_) (fun hcd => ?_)|refine zu (fun hcd => ?_) (fun hcd => ?_)|refine zX ?_|refine zY ?_|refine zv (fun hcd => ?_) (fun hcd => ?_)|refine zk ?_|refine zl ?_|refine zm ?_|refine zn ?_|refine zf ?_|refine zg ?_|refine zj ?_|refine zZ ?_|refine zh ?_|refine zi ?_|refine zo ?_|refine zp ?_|refine zq ?_|refine zr ?_|refine zs ?_)
    (refine r_call (R := ?_) rfl ?_ ?_; rotate_left 1; focus exact turnR_any x q false wk hqx hx)
    rintro v1 w1 h1
    have hE1 := h1.1
    rcases step false (decide_eq_false (by omega)) w1 v1 h1 with ⟨z, hz, rfl, hne⟩ | ⟨s', rfl, hn2⟩
    · by_cases hzy : z.text = y.text
      · repeat' (first|refine za ?_|refine zA ?_|refine zB ?_|refine zb ?_|refine zc ?_|refine ze ?_|refine zd ?_|refine zC ?_|refine zD ?_|refine zE ?_|refine zF ?_|refine zG ?_|refine zH ?_|refine zI ?_|refine zJ ?_|refine zK ?_|refine zL ?_|refine zM ?_|refine zN ?_|refine zO ?_|refine zP ?_|refine zQ ?_|refine zR ?_|refine zS ?_|refine zU ?_|refine zV ?_|refine zW ?_|refine zt (fun hcd => ?_) (fun hcd => ?_)|refine zu (fun hcd => ?_) (fun hcd => ?_)|refine zX ?_|refine zY ?_|refine zv (fun hcd => ?_) (fun hcd => ?_)|refine zk ?_|refine zl ?_|refine zm ?_|refine zn ?_|refine zf ?_|refine zg ?_|refine zj ?_|refine zZ ?_|refine zh ?_|refine zi ?_|refine zo ?_|refine zp ?_|refine zq ?_|refine zr ?_|refine zs ?_)
        refine r_seql_v (a := z.text) (b := y.text) (c := true) rfl rfl (decide_eq_true hzy) ?_
        repeat' (first|refine za ?_|refine zA ?_|refine zB ?_|refine zb ?_|refine zc ?_|refine ze ?_|refine zd ?_|refine zC ?_|refine zD ?_|refine zE ?_|refine zF ?_|refine zG ?_|refine zH ?_|refine zI ?_|refine zJ ?_|refine zK ?_|refine zL ?_|refine zM ?_|refine zN ?_|refine zO ?_|refine zP ?_|refine zQ ?_|refine zR ?_|refine zS ?_|refine zU ?_|refine zV ?_|refine zW ?_|refine zt (fun hcd => ?_) (fun hcd => ?_)|refine zu (fun hcd => ?_) (fun hcd => ?_)|refine zX ?_|refine zY ?_|refine zv (fun hcd => ?_) (fun hcd => ?_)|refine zk ?_|refine zl ?_|refine zm ?_|refine zn ?_|refine zf ?_|refine zg ?_|refine zj ?_|refine zZ ?_|refine zh ?_|refine zi ?_|refine zo ?_|refine zp ?_|refine zq ?_|refine zr ?_|refine zs ?_)
        refine post1 (v := .bool true) rfl rfl ?_
        exact ⟨rfl, hE.trans hE1⟩
      · repeat' (first|refine za ?_|refine zA ?_|refine zB ?_|refine zb ?_|refine zc ?_|refine ze ?_|refine zd ?_|refine zC ?_|refine zD ?_|refine zE ?_|refine zF ?_|refine zG ?_|refine zH ?_|refine zI ?_|refine zJ ?_|refine zK ?_|refine zL ?_|refine zM ?_|refine zN ?_|refine zO ?_|refine zP ?_|refine zQ ?_|refine zR ?_|refine zS ?_|refine zU ?_|refine zV ?_|refine zW ?_|refine zt (fun hcd => ?_) (fun hcd => ?_)|refine zu (fun hcd => ?_) (fun hcd => ?_)|refine zX ?_|refine zY ?_|refine zv (fun hcd => ?_) (fun hcd => ?_)|refine zk ?_|refine zl ?_|refine zm ?_|refine zn ?_|refine zf ?_|refine zg ?_|refine zj ?_|refine zZ ?_|refine zh ?_|refine zi ?_|refine zo ?_|refine zp ?_|refine zq ?_|refine zr ?_|refine zs ?_)
        refine r_seql_v (a := z.text) (b := y.text) (c := false) rfl rfl (decide_eq_false hzy) ?_
        repeat' (first|refine za ?_|refine zA ?_|refine zB ?_|refine zb ?_|refine zc ?_|refine ze ?_|refine zd ?_|refine zC ?_|refine zD ?_|refine zE ?_|refine zF ?_|refine zG ?_|refine zH ?_|refine zI ?_|refine zJ ?_|refine zK ?_|refine zL ?_|refine zM ?_|refine zN ?_|refine zO ?_|refine zP ?_|refine zQ ?_|refine zR ?_|refine zS ?_|refine zU ?_|refine zV ?_|refine zW ?_|refine zt (fun hcd => ?_) (fun hcd => ?_)|refine zu (fun hcd => ?_) (fun hcd => ?_)|refine zX ?_|refine zY ?_|refine zv (fun hcd => ?_) (fun hcd => ?_)|refine zk ?_|refine zl ?_|refine zm ?_|refine zn ?_|refine zf ?_|refine zg ?_|refine zj ?_|refine zZ ?_|refine zh ?_|refine zi ?_|refine zo ?_|refine zp ?_|refine zq ?_|refine zr ?_|refine zs ?_)
        exact ⟨k + 1, ⟨rfl, trivial⟩, ⟨by omega, hE.trans hE1, hne hzy⟩, by omega⟩
    · repeat' (first|refine za ?_|refine zA ?_|refine zB ?_|refine zb ?_|refine zc ?_|refine ze ?_|refine zd ?_|refine zC ?_|refine zD ?_|refine zE ?_|refine zF ?_|refine zG ?_|refine zH ?_|refine zI ?_|refine zJ ?_|refine zK ?_|refine zL ?_|refine zM ?_|refine zN ?_|refine zO ?_|refine zP ?_|refine zQ ?_|refine zR ?_|refine zS ?_|refine zU ?_|refine zV ?_|refine zW ?_|refine zt (fun hcd => ?_) (fun hcd => ?_)|refine zu (fun hcd => ?_) (fun hcd => ?_)|refine zX ?_|refine zY ?_|refine zv (fun hcd => ?_) (fun hcd => ?_)|refine zk ?_|refine zl ?_|refine zm ?_|refine zn ?_|refine zf ?_|refine zg ?_|refine zj ?_|refine zZ ?_|refine zh ?_|refine zi ?_|refine zo ?_|refine zp ?_|refine zq ?_|refine zr ?_|refine zs ?_)
      exact ⟨k + 1, ⟨rfl, trivial⟩, ⟨by omega, hE.trans hE1, hn2⟩, by omega⟩
end Go.Proofs.Ytkdakleckdkhiaa
