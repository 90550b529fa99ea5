/- bags: the reference's Cores. -/
import Derived.Test.YtibegggcinonkaaR3
namespace Go.Proofs.Ytibegggcinonkaa
open Gv
set_option maxRecDepth 20000 in
set_option maxHeartbeats 4000000 in
theorem rcores_any (m : Nat) (ve : Value) (L : List (Int × Int)) (w : World) (h : Pairs2 w ve L) (hl : L.length ≤ 1000) (hG : ∀ k, k < L.length → (0 ≤ (ed L k).1 ∧ (ed L k).1 < (ed L k).2 ∧ (ed L k).2 < (m : Int)) ∧ ∀ j, j < k → ed L j ≠ ed L k) (hm : 1 ≤ m ∧ m ≤ 16) :
    Calls Try.prog 25 #[.int .i64 m, ve] w (Ret fun v w' => OwnI w' w.heap.size 3 v (peC L m m) ∧ Ext w w') := by
  obtain ⟨qe, ce, rfl, hqe⟩ := h.slice
  have hGe : ∀ k, k < L.length → 0 ≤ (ed L k).1 ∧ (ed L k).1 < (ed L k).2 ∧ (ed L k).2 < (m : Int) := fun k hk => (hG k hk).1
  refine calls_of_wc (args := [.int .i64 m, .slice qe L.length ce]) Try.func25 rfl ?_ ?_; kernel_rfl
  repeat' (first|refine za ?_|refine zA ?_|refine zB ?_|refine zb ?_|refine zc ?_|refine ze ?_|refine zd ?_|refine zC ?_|refine zD ?_|refine zE ?_|refine zF ?_|refine zG ?_|refine zH ?_|refine zI ?_|refine zJ ?_|refine zK ?_|refine zL ?_|refine zM ?_|refine zN ?_|refine zO ?_|refine zP ?_|refine zQ ?_|refine zR ?_|refine zS ?_|refine zU ?_|refine zV ?_|refine zW ?_|refine zt (fun hcd => ?_) (fun hcd => ?_)|refine zu (fun hcd => ?_) (fun hcd => ?_)|refine zX ?_|refine zY ?_|refine zv (fun hcd => ?_) (fun hcd => ?_)|refine zk ?_|refine zl ?_|refine zm ?_|refine zn ?_|refine zf ?_|refine zg ?_|refine zj ?_|refine zZ ?_|refine zh ?_|refine zi ?_|refine zo ?_|refine zp ?_|refine zq ?_|refine zr ?_|refine zs ?_)
  refine r_make_i el23 rfl rfl (by omega) fun w2 hD2 hE2 hs2 => ?_
  obtain ⟨g, eg⟩ : ∃ b, b = w.heap.size := ⟨_, rfl⟩
  rw [← eg] at hD2 ⊢
  repeat' (first|refine za ?_|refine zA ?_|refine zB ?_|refine zb ?_|refine zc ?_|refine ze ?_|refine zd ?_|refine zC ?_|refine zD ?_|refine zE ?_|refine zF ?_|refine zG ?_|refine zH ?_|refine zI ?_|refine zJ ?_|refine zK ?_|refine zL ?_|refine zM ?_|refine zN ?_|refine zO ?_|refine zP ?_|refine zQ ?_|refine zR ?_|refine zS ?_|refine zU ?_|refine zV ?_|refine zW ?_|refine zt (fun hcd => ?_) (fun hcd => ?_)|refine zu (fun hcd => ?_) (fun hcd => ?_)|refine zX ?_|refine zY ?_|refine zv (fun hcd => ?_) (fun hcd => ?_)|refine zk ?_|refine zl ?_|refine zm ?_|refine zn ?_|refine zf ?_|refine zg ?_|refine zj ?_|refine zZ ?_|refine zh ?_|refine zi ?_|refine zo ?_|refine zp ?_|refine zq ?_|refine zr ?_|refine zs ?_)
  refine wc_loop2 [0, 1, 5] (fun (k : Nat) (_ : List Int) => [(6, .int .i64 k)]) (fun k C wk => (1 ≤ k ∧ k ≤ m) ∧ OwnI wk g 3 (.slice (some ⟨g, 0, none⟩) m m) C ∧ C.length = m ∧ (∀ u, u < m → C.getD u 0 = min ((k : Int) - 1) ((peC L m m).getD u 0)) ∧ Ext w wk) (fun k _ => m - k) 1 _ rfl ⟨rfl, trivial⟩
    ⟨by omega, hD2, by simp, fun u hu => by rw [List.getD_eq_getElem?_getD, List.getElem?_replicate, if_pos hu]; have := (peC_le (L := L) hu).1; simp only [Option.getD_some]; omega, hE2⟩ ?_
  clear hD2 hE2 hs2
  rintro k C wk x ⟨hk, hC, hCl, hCv, hE⟩
  by_cases hkm : k < m
  rotate_left 1
  · have : k = m := by omega
    subst this
    have he : C = peC L k k := List.ext_getElem (by rw [hCl, peC_len]) fun i h1 h2 => by
      have h3 := hCv i (by omega)
      have h4 := core_lt hG (v := i) (by omega)
      rw [getD_lt h1] at h3
      rw [getD_lt h2] at h3 h4
      omega
    subst he
    repeat' (first|refine za ?_|refine zA ?_|refine zB ?_|refine zb ?_|refine zc ?_|refine ze ?_|refine zd ?_|refine zC ?_|refine zD ?_|refine zE ?_|refine zF ?_|refine zG ?_|refine zH ?_|refine zI ?_|refine zJ ?_|refine zK ?_|refine zL ?_|refine zM ?_|refine zN ?_|refine zO ?_|refine zP ?_|refine zQ ?_|refine zR ?_|refine zS ?_|refine zU ?_|refine zV ?_|refine zW ?_|refine zt (fun hcd => ?_) (fun hcd => ?_)|refine zu (fun hcd => ?_) (fun hcd => ?_)|refine zX ?_|refine zY ?_|refine zv (fun hcd => ?_) (fun hcd => ?_)|refine zk ?_|refine zl ?_|refine zm ?_|refine zn ?_|refine zf ?_|refine zg ?_|refine zj ?_|refine zZ ?_|refine zh ?_|refine zi ?_|refine zo ?_|refine zp ?_|refine zq ?_|refine zr ?_|refine zs ?_)
    refine post1 (v := .slice (some ⟨g, 0, none⟩) k k) rfl rfl ?_
    exact ⟨hC, hE⟩
  have hps : (some (⟨g, 0, none⟩ : Addr)).isSome = true := rfl
  repeat' (first|refine za ?_|refine zA ?_|refine zB ?_|refine zb ?_|refine zc ?_|refine ze ?_|refine zd ?_|refine zC ?_|refine zD ?_|refine zE ?_|refine zF ?_|refine zG ?_|refine zH ?_|refine zI ?_|refine zJ ?_|refine zK ?_|refine zL ?_|refine zM ?_|refine zN ?_|refine zO ?_|refine zP ?_|refine zQ ?_|refine zR ?_|refine zS ?_|refine zU ?_|refine zV ?_|refine zW ?_|refine zt (fun hcd => ?_) (fun hcd => ?_)|refine zu (fun hcd => ?_) (fun hcd => ?_)|refine zX ?_|refine zY ?_|refine zv (fun hcd => ?_) (fun hcd => ?_)|refine zk ?_|refine zl ?_|refine zm ?_|refine zn ?_|refine zf ?_|refine zg ?_|refine zj ?_|refine zZ ?_|refine zh ?_|refine zi ?_|refine zo ?_|refine zp ?_|refine zq ?_|refine zr ?_|refine zs ?_)
  refine r_make_b (n := m) el80 rfl rfl (by omega) fun w1 h1 hE1 hs1 => ?_
  obtain ⟨b, eb⟩ : ∃ b, b = wk.heap.size := ⟨_, rfl⟩
  have hbs : wk.heap.size ≤ b := by omega
  have hgb := (World.ownsRow.lt hC g rfl).2
  have hsz := hE.size
  rw [← eb] at h1 ⊢
  have hqs : (some (⟨b, 0, none⟩ : Addr)).isSome = true := rfl
  repeat' (first|refine za ?_|refine zA ?_|refine zB ?_|refine zb ?_|refine zc ?_|refine ze ?_|refine zd ?_|refine zC ?_|refine zD ?_|refine zE ?_|refine zF ?_|refine zG ?_|refine zH ?_|refine zI ?_|refine zJ ?_|refine zK ?_|refine zL ?_|refine zM ?_|refine zN ?_|refine zO ?_|refine zP ?_|refine zQ ?_|refine zR ?_|refine zS ?_|refine zU ?_|refine zV ?_|refine zW ?_|refine zt (fun hcd => ?_) (fun hcd => ?_)|refine zu (fun hcd => ?_) (fun hcd => ?_)|refine zX ?_|refine zY ?_|refine zv (fun hcd => ?_) (fun hcd => ?_)|refine zk ?_|refine zl ?_|refine zm ?_|refine zn ?_|refine zf ?_|refine zg ?_|refine zj ?_|refine zZ ?_|refine zh ?_|refine zi ?_|refine zo ?_|refine zp ?_|refine zq ?_|refine zr ?_|refine zs ?_)
  refine wc_loop2 [0, 1, 5, 6, 7] (fun (v : Nat) (_ : List Bool) => [(8, .int .i64 v)]) (fun v R wf => v ≤ m ∧ OwnL wf b 4 (.slice (some ⟨b, 0, none⟩) m m) R ∧ R.length = m ∧ (∀ u, u < v → R.getD u false = true) ∧ Ext wk wf) (fun v _ => m - v) 0 _ rfl ⟨rfl, trivial⟩ ⟨by omega, h1, by simp, fun u hu => by omega, hE1⟩ ?_
  clear h1 hE1 hs1
  rintro v R wf x ⟨hv, hL, hRl, hall, hEf⟩
  by_cases hvm : v < m
  · repeat' (first|refine za ?_|refine zA ?_|refine zB ?_|refine zb ?_|refine zc ?_|refine ze ?_|refine zd ?_|refine zC ?_|refine zD ?_|refine zE ?_|refine zF ?_|refine zG ?_|refine zH ?_|refine zI ?_|refine zJ ?_|refine zK ?_|refine zL ?_|refine zM ?_|refine zN ?_|refine zO ?_|refine zP ?_|refine zQ ?_|refine zR ?_|refine zS ?_|refine zU ?_|refine zV ?_|refine zW ?_|refine zt (fun hcd => ?_) (fun hcd => ?_)|refine zu (fun hcd => ?_) (fun hcd => ?_)|refine zX ?_|refine zY ?_|refine zv (fun hcd => ?_) (fun hcd => ?_)|refine zk ?_|refine zl ?_|refine zm ?_|refine zn ?_|refine zf ?_|refine zg ?_|refine zj ?_|refine zZ ?_|refine zh ?_|refine zi ?_|refine zo ?_|refine zp ?_|refine zq ?_|refine zr ?_|refine zs ?_)
    refine r_st_b (i := v) (e := 4) (base := b) rfl hL rfl rfl (by omega) fun w3 h3 hg3 hs3 => ?_
    have hC3 : Ch (fun k => k = b) wf w3 := Ch.grown hg3 fun k hk => (Option.some.inj hk).symm
    repeat' (first|refine za ?_|refine zA ?_|refine zB ?_|refine zb ?_|refine zc ?_|refine ze ?_|refine zd ?_|refine zC ?_|refine zD ?_|refine zE ?_|refine zF ?_|refine zG ?_|refine zH ?_|refine zI ?_|refine zJ ?_|refine zK ?_|refine zL ?_|refine zM ?_|refine zN ?_|refine zO ?_|refine zP ?_|refine zQ ?_|refine zR ?_|refine zS ?_|refine zU ?_|refine zV ?_|refine zW ?_|refine zt (fun hcd => ?_) (fun hcd => ?_)|refine zu (fun hcd => ?_) (fun hcd => ?_)|refine zX ?_|refine zY ?_|refine zv (fun hcd => ?_) (fun hcd => ?_)|refine zk ?_|refine zl ?_|refine zm ?_|refine zn ?_|refine zf ?_|refine zg ?_|refine zj ?_|refine zZ ?_|refine zh ?_|refine zi ?_|refine zo ?_|refine zp ?_|refine zq ?_|refine zr ?_|refine zs ?_)
    refine ⟨v + 1, _, ⟨rfl, trivial⟩, ⟨by omega, h3, by rw [List.length_set]; exact hRl, fun u hu => ?_, Ch.trans' hEf hC3 fun k hk e => by omega⟩, by omega⟩
    rw [set_getB (by omega)]
    split
    · rfl
    · exact hall u (by omega)
  have hvm' : v = m := by omega
  have hRe : R = List.replicate m true := List.ext_getElem (by simp [hRl]) fun i h1 h2 => by
    have h3 := hall i (by omega)
    rw [getD_lt h1] at h3
    rw [h3]; simp
  have hH0 : Holds L m k R := by rw [hRe]; exact Holds.all
  clear hRe hall hRl
  repeat' (first|refine za ?_|refine zA ?_|refine zB ?_|refine zb ?_|refine zc ?_|refine ze ?_|refine zd ?_|refine zC ?_|refine zD ?_|refine zE ?_|refine zF ?_|refine zG ?_|refine zH ?_|refine zI ?_|refine zJ ?_|refine zK ?_|refine zL ?_|refine zM ?_|refine zN ?_|refine zO ?_|refine zP ?_|refine zQ ?_|refine zR ?_|refine zS ?_|refine zU ?_|refine zV ?_|refine zW ?_|refine zt (fun hcd => ?_) (fun hcd => ?_)|refine zu (fun hcd => ?_) (fun hcd => ?_)|refine zX ?_|refine zY ?_|refine zv (fun hcd => ?_) (fun hcd => ?_)|refine zk ?_|refine zl ?_|refine zm ?_|refine zn ?_|refine zf ?_|refine zg ?_|refine zj ?_|refine zZ ?_|refine zh ?_|refine zi ?_|refine zo ?_|refine zp ?_|refine zq ?_|refine zr ?_|refine zs ?_)
  refine wc_loop2 [0, 1, 5, 6, 7] (fun (a : Bool) (_ : List Bool) => [(9, .bool a)]) (fun a R wf => OwnL wf b 4 (.slice (some ⟨b, 0, none⟩) m m) R ∧ Holds L m k R ∧ (a = false → ∀ u : Nat, u < m → R.getD u false = true → (k : Int) ≤ nbP L (bset R) u) ∧ Ext wk wf) (fun a R => 2 * R.count true + if a then 1 else 0) true _ rfl ⟨rfl, trivial⟩ ⟨hL, hH0, fun e => by (cases e), hEf⟩ ?_
  clear hL hH0 hEf hvm' hvm hv
  rintro a R wf x ⟨hL, hH, hdone, hEf⟩
  cases a with
  | true =>
    repeat' (first|refine za ?_|refine zA ?_|refine zB ?_|refine zb ?_|refine zc ?_|refine ze ?_|refine zd ?_|refine zC ?_|refine zD ?_|refine zE ?_|refine zF ?_|refine zG ?_|refine zH ?_|refine zI ?_|refine zJ ?_|refine zK ?_|refine zL ?_|refine zM ?_|refine zN ?_|refine zO ?_|refine zP ?_|refine zQ ?_|refine zR ?_|refine zS ?_|refine zU ?_|refine zV ?_|refine zW ?_|refine zt (fun hcd => ?_) (fun hcd => ?_)|refine zu (fun hcd => ?_) (fun hcd => ?_)|refine zX ?_|refine zY ?_|refine zv (fun hcd => ?_) (fun hcd => ?_)|refine zk ?_|refine zl ?_|refine zm ?_|refine zn ?_|refine zf ?_|refine zg ?_|refine zj ?_|refine zZ ?_|refine zh ?_|refine zi ?_|refine zo ?_|refine zp ?_|refine zq ?_|refine zr ?_|refine zs ?_)
    refine wc_loop3 [0, 1, 5, 6, 7] (fun (v : Nat) (a : Bool) (_ : List Bool) => [(9, .bool a), (10, .int .i64 v)]) (fun v a R' wf => v ≤ m ∧ OwnL wf b 4 (.slice (some ⟨b, 0, none⟩) m m) R' ∧ Holds L m k R' ∧ (a = false → R' = R ∧ ∀ u : Nat, u < v → R'.getD u false = true → (k : Int) ≤ nbP L (bset R') u) ∧ (a = true → R'.count true < R.count true) ∧ Ext wk wf) (fun v _ _ => m - v) 0 false R rfl ⟨rfl, rfl, trivial⟩
      ⟨by omega, hL, hH, fun _ => ⟨rfl, fun u hu => by omega⟩, fun e => by (cases e), hEf⟩ ?_
    clear hL hH hdone hEf
    rintro v a R' wf x ⟨hv, hL, hH, hst, hct, hEf⟩
    have hRl := hH.1
    by_cases hvm : v < m
    · have hrd := (OwnL.bls hL).rd (i := v) (by omega)
      cases hb : R'.getD v false with
      | false =>
        rw [hb] at hrd
        repeat' (first|refine za ?_|refine zA ?_|refine zB ?_|refine zb ?_|refine zc ?_|refine ze ?_|refine zd ?_|refine zC ?_|refine zD ?_|refine zE ?_|refine zF ?_|refine zG ?_|refine zH ?_|refine zI ?_|refine zJ ?_|refine zK ?_|refine zL ?_|refine zM ?_|refine zN ?_|refine zO ?_|refine zP ?_|refine zQ ?_|refine zR ?_|refine zS ?_|refine zU ?_|refine zV ?_|refine zW ?_|refine zt (fun hcd => ?_) (fun hcd => ?_)|refine zu (fun hcd => ?_) (fun hcd => ?_)|refine zX ?_|refine zY ?_|refine zv (fun hcd => ?_) (fun hcd => ?_)|refine zk ?_|refine zl ?_|refine zm ?_|refine zn ?_|refine zf ?_|refine zg ?_|refine zj ?_|refine zZ ?_|refine zh ?_|refine zi ?_|refine zo ?_|refine zp ?_|refine zq ?_|refine zr ?_|refine zs ?_)
        refine ⟨v + 1, a, R', ⟨rfl, rfl, trivial⟩, ⟨by omega, hL, hH, fun e => ⟨(hst e).1, fun u hu hur => ?_⟩, hct, hEf⟩, by omega⟩
        by_cases e2 : u = v
        · subst e2; rw [hb] at hur; cases hur
        · exact (hst e).2 u (by omega) hur
      | true =>
        rw [hb] at hrd
        repeat' (first|refine za ?_|refine zA ?_|refine zB ?_|refine zb ?_|refine zc ?_|refine ze ?_|refine zd ?_|refine zC ?_|refine zD ?_|refine zE ?_|refine zF ?_|refine zG ?_|refine zH ?_|refine zI ?_|refine zJ ?_|refine zK ?_|refine zL ?_|refine zM ?_|refine zN ?_|refine zO ?_|refine zP ?_|refine zQ ?_|refine zR ?_|refine zS ?_|refine zU ?_|refine zV ?_|refine zW ?_|refine zt (fun hcd => ?_) (fun hcd => ?_)|refine zu (fun hcd => ?_) (fun hcd => ?_)|refine zX ?_|refine zY ?_|refine zv (fun hcd => ?_) (fun hcd => ?_)|refine zk ?_|refine zl ?_|refine zm ?_|refine zn ?_|refine zf ?_|refine zg ?_|refine zj ?_|refine zZ ?_|refine zh ?_|refine zi ?_|refine zo ?_|refine zp ?_|refine zq ?_|refine zr ?_|refine zs ?_)
        (refine r_call (R := ?_) rfl ?_ ?_; rotate_left 1; focus exact neighbors_any _ _ L R' v _ (h.ext (hE.trans hEf)) (OwnL.bls hL) hl (by rw [hRl]; exact hGe))
        rintro v9 w9 ⟨rfl, rfl⟩
        by_cases c : nbP L (bset R') v < k
        · repeat' (first|refine za ?_|refine zA ?_|refine zB ?_|refine zb ?_|refine zc ?_|refine ze ?_|refine zd ?_|refine zC ?_|refine zD ?_|refine zE ?_|refine zF ?_|refine zG ?_|refine zH ?_|refine zI ?_|refine zJ ?_|refine zK ?_|refine zL ?_|refine zM ?_|refine zN ?_|refine zO ?_|refine zP ?_|refine zQ ?_|refine zR ?_|refine zS ?_|refine zU ?_|refine zV ?_|refine zW ?_|refine zt (fun hcd => ?_) (fun hcd => ?_)|refine zu (fun hcd => ?_) (fun hcd => ?_)|refine zX ?_|refine zY ?_|refine zv (fun hcd => ?_) (fun hcd => ?_)|refine zk ?_|refine zl ?_|refine zm ?_|refine zn ?_|refine zf ?_|refine zg ?_|refine zj ?_|refine zZ ?_|refine zh ?_|refine zi ?_|refine zo ?_|refine zp ?_|refine zq ?_|refine zr ?_|refine zs ?_)
          refine r_st_b (i := v) (e := 4) (base := b) rfl hL rfl rfl (by omega) fun w3 h3 hg3 hs3 => ?_
          have hC3 : Ch (fun k => k = b) w9 w3 := Ch.grown hg3 fun k hk => (Option.some.inj hk).symm
          repeat' (first|refine za ?_|refine zA ?_|refine zB ?_|refine zb ?_|refine zc ?_|refine ze ?_|refine zd ?_|refine zC ?_|refine zD ?_|refine zE ?_|refine zF ?_|refine zG ?_|refine zH ?_|refine zI ?_|refine zJ ?_|refine zK ?_|refine zL ?_|refine zM ?_|refine zN ?_|refine zO ?_|refine zP ?_|refine zQ ?_|refine zR ?_|refine zS ?_|refine zU ?_|refine zV ?_|refine zW ?_|refine zt (fun hcd => ?_) (fun hcd => ?_)|refine zu (fun hcd => ?_) (fun hcd => ?_)|refine zX ?_|refine zY ?_|refine zv (fun hcd => ?_) (fun hcd => ?_)|refine zk ?_|refine zl ?_|refine zm ?_|refine zn ?_|refine zf ?_|refine zg ?_|refine zj ?_|refine zZ ?_|refine zh ?_|refine zi ?_|refine zo ?_|refine zp ?_|refine zq ?_|refine zr ?_|refine zs ?_)
          refine ⟨v + 1, true, _, ⟨rfl, rfl, trivial⟩, ⟨by omega, h3, hH.off hvm c, fun e => (by cases e), fun _ => ?_, Ch.trans' hEf hC3 fun k hk e => by omega⟩, by omega⟩
          have h4 := count_off hb
          cases a with
          | false => rw [(hst rfl).1] at h4 ⊢; omega
          | true => have := hct rfl; omega
        · repeat' (first|refine za ?_|refine zA ?_|refine zB ?_|refine zb ?_|refine zc ?_|refine ze ?_|refine zd ?_|refine zC ?_|refine zD ?_|refine zE ?_|refine zF ?_|refine zG ?_|refine zH ?_|refine zI ?_|refine zJ ?_|refine zK ?_|refine zL ?_|refine zM ?_|refine zN ?_|refine zO ?_|refine zP ?_|refine zQ ?_|refine zR ?_|refine zS ?_|refine zU ?_|refine zV ?_|refine zW ?_|refine zt (fun hcd => ?_) (fun hcd => ?_)|refine zu (fun hcd => ?_) (fun hcd => ?_)|refine zX ?_|refine zY ?_|refine zv (fun hcd => ?_) (fun hcd => ?_)|refine zk ?_|refine zl ?_|refine zm ?_|refine zn ?_|refine zf ?_|refine zg ?_|refine zj ?_|refine zZ ?_|refine zh ?_|refine zi ?_|refine zo ?_|refine zp ?_|refine zq ?_|refine zr ?_|refine zs ?_)
          refine ⟨v + 1, a, R', ⟨rfl, rfl, trivial⟩, ⟨by omega, hL, hH, fun e => ⟨(hst e).1, fun u hu hur => ?_⟩, hct, hEf⟩, by omega⟩
          by_cases e2 : u = v
          · subst e2; omega
          · exact (hst e).2 u (by omega) hur
    have : v = m := by omega
    subst this
    repeat' (first|refine za ?_|refine zA ?_|refine zB ?_|refine zb ?_|refine zc ?_|refine ze ?_|refine zd ?_|refine zC ?_|refine zD ?_|refine zE ?_|refine zF ?_|refine zG ?_|refine zH ?_|refine zI ?_|refine zJ ?_|refine zK ?_|refine zL ?_|refine zM ?_|refine zN ?_|refine zO ?_|refine zP ?_|refine zQ ?_|refine zR ?_|refine zS ?_|refine zU ?_|refine zV ?_|refine zW ?_|refine zt (fun hcd => ?_) (fun hcd => ?_)|refine zu (fun hcd => ?_) (fun hcd => ?_)|refine zX ?_|refine zY ?_|refine zv (fun hcd => ?_) (fun hcd => ?_)|refine zk ?_|refine zl ?_|refine zm ?_|refine zn ?_|refine zf ?_|refine zg ?_|refine zj ?_|refine zZ ?_|refine zh ?_|refine zi ?_|refine zo ?_|refine zp ?_|refine zq ?_|refine zr ?_|refine zs ?_)
    refine ⟨a, R', ⟨rfl, trivial⟩, ⟨hL, hH, fun e => (hst e).2, hEf⟩, ?_⟩
    cases a with
    | false => rw [(hst rfl).1]; simp
    | true => have := hct rfl; simp only [if_true]; omega
  | false =>
    have hRl := hH.1
    have hcore := fun {v : Nat} (hv : v < m) => hH.core hGe (by omega) (hdone rfl) hv
    have hC := ownsRow_ext hC hEf
    clear hdone
    repeat' (first|refine za ?_|refine zA ?_|refine zB ?_|refine zb ?_|refine zc ?_|refine ze ?_|refine zd ?_|refine zC ?_|refine zD ?_|refine zE ?_|refine zF ?_|refine zG ?_|refine zH ?_|refine zI ?_|refine zJ ?_|refine zK ?_|refine zL ?_|refine zM ?_|refine zN ?_|refine zO ?_|refine zP ?_|refine zQ ?_|refine zR ?_|refine zS ?_|refine zU ?_|refine zV ?_|refine zW ?_|refine zt (fun hcd => ?_) (fun hcd => ?_)|refine zu (fun hcd => ?_) (fun hcd => ?_)|refine zX ?_|refine zY ?_|refine zv (fun hcd => ?_) (fun hcd => ?_)|refine zk ?_|refine zl ?_|refine zm ?_|refine zn ?_|refine zf ?_|refine zg ?_|refine zj ?_|refine zZ ?_|refine zh ?_|refine zi ?_|refine zo ?_|refine zp ?_|refine zq ?_|refine zr ?_|refine zs ?_)
    refine wc_loop2 [0, 1, 5, 6, 7] (fun (v : Nat) (_ : List Int) => [(11, .int .i64 v)]) (fun v C' wg => v ≤ m ∧ OwnI wg g 3 (.slice (some ⟨g, 0, none⟩) m m) C' ∧ C'.length = m ∧ (∀ u, u < m → C'.getD u 0 = min (if u < v then (k : Int) else k - 1) ((peC L m m).getD u 0)) ∧ Ch (fun k => k = g) wf wg) (fun v _ => m - v) 0 C rfl ⟨rfl, trivial⟩
      ⟨by omega, hC, hCl, fun u hu => by rw [if_neg (by omega)]; exact hCv u hu, Ch.refl _ _⟩ ?_
    clear hC hCl hCv
    rintro v C' wg x ⟨hv, hC, hCl, hCv, hCg⟩
    by_cases hvm : v < m
    · have hLg := ownsRow_keep hL hCg fun g' hg' e => by have : b = g' := Option.some.inj hg'; omega
      have hrd := (OwnL.bls hLg).rd (i := v) (by omega)
      have hcv := hcore hvm
      cases hb : R.getD v false with
      | false =>
        rw [hb] at hrd hcv
        repeat' (first|refine za ?_|refine zA ?_|refine zB ?_|refine zb ?_|refine zc ?_|refine ze ?_|refine zd ?_|refine zC ?_|refine zD ?_|refine zE ?_|refine zF ?_|refine zG ?_|refine zH ?_|refine zI ?_|refine zJ ?_|refine zK ?_|refine zL ?_|refine zM ?_|refine zN ?_|refine zO ?_|refine zP ?_|refine zQ ?_|refine zR ?_|refine zS ?_|refine zU ?_|refine zV ?_|refine zW ?_|refine zt (fun hcd => ?_) (fun hcd => ?_)|refine zu (fun hcd => ?_) (fun hcd => ?_)|refine zX ?_|refine zY ?_|refine zv (fun hcd => ?_) (fun hcd => ?_)|refine zk ?_|refine zl ?_|refine zm ?_|refine zn ?_|refine zf ?_|refine zg ?_|refine zj ?_|refine zZ ?_|refine zh ?_|refine zi ?_|refine zo ?_|refine zp ?_|refine zq ?_|refine zr ?_|refine zs ?_)
        refine ⟨v + 1, C', ⟨rfl, trivial⟩, ⟨by omega, hC, hCl, fun u hu => ?_, hCg⟩, by omega⟩
        have h1 := hCv u hu
        by_cases e : u = v
        · subst e
          have : ¬ (k : Int) ≤ (peC L m m).getD u 0 := fun c => by have := hcv.2 c; cases this
          rw [if_neg (by omega)] at h1
          rw [if_pos (by omega), h1]; omega
        · by_cases c : u < v
          · rw [if_pos c] at h1; rw [if_pos (by omega)]; exact h1
          · rw [if_neg c] at h1; rw [if_neg (by omega)]; exact h1
      | true =>
        rw [hb] at hrd hcv
        repeat' (first|refine za ?_|refine zA ?_|refine zB ?_|refine zb ?_|refine zc ?_|refine ze ?_|refine zd ?_|refine zC ?_|refine zD ?_|refine zE ?_|refine zF ?_|refine zG ?_|refine zH ?_|refine zI ?_|refine zJ ?_|refine zK ?_|refine zL ?_|refine zM ?_|refine zN ?_|refine zO ?_|refine zP ?_|refine zQ ?_|refine zR ?_|refine zS ?_|refine zU ?_|refine zV ?_|refine zW ?_|refine zt (fun hcd => ?_) (fun hcd => ?_)|refine zu (fun hcd => ?_) (fun hcd => ?_)|refine zX ?_|refine zY ?_|refine zv (fun hcd => ?_) (fun hcd => ?_)|refine zk ?_|refine zl ?_|refine zm ?_|refine zn ?_|refine zf ?_|refine zg ?_|refine zj ?_|refine zZ ?_|refine zh ?_|refine zi ?_|refine zo ?_|refine zp ?_|refine zq ?_|refine zr ?_|refine zs ?_)
        refine r_st_i (i := v) (a := (k : Int)) (by kernel_rfl) hC rfl rfl (by omega) fun wc hCc hgc hsc => ?_
        have hKc : Ch (fun k => k = g) wg wc := Ch.grown hgc fun k hk => (Option.some.inj hk).symm
        repeat' (first|refine za ?_|refine zA ?_|refine zB ?_|refine zb ?_|refine zc ?_|refine ze ?_|refine zd ?_|refine zC ?_|refine zD ?_|refine zE ?_|refine zF ?_|refine zG ?_|refine zH ?_|refine zI ?_|refine zJ ?_|refine zK ?_|refine zL ?_|refine zM ?_|refine zN ?_|refine zO ?_|refine zP ?_|refine zQ ?_|refine zR ?_|refine zS ?_|refine zU ?_|refine zV ?_|refine zW ?_|refine zt (fun hcd => ?_) (fun hcd => ?_)|refine zu (fun hcd => ?_) (fun hcd => ?_)|refine zX ?_|refine zY ?_|refine zv (fun hcd => ?_) (fun hcd => ?_)|refine zk ?_|refine zl ?_|refine zm ?_|refine zn ?_|refine zf ?_|refine zg ?_|refine zj ?_|refine zZ ?_|refine zh ?_|refine zi ?_|refine zo ?_|refine zp ?_|refine zq ?_|refine zr ?_|refine zs ?_)
        refine ⟨v + 1, _, ⟨rfl, trivial⟩, ⟨by omega, hCc, by rw [List.length_set]; exact hCl, fun u hu => ?_, hCg.trans hKc⟩, by omega⟩
        rw [List.getD_eq_getElem?_getD, List.getElem?_set]
        have h1 := hCv u hu
        by_cases e : v = u
        · subst e
          have : (k : Int) ≤ (peC L m m).getD v 0 := hcv.1 rfl
          rw [if_pos rfl, if_pos (by omega), if_pos (by omega)]
          simp only [Option.getD_some]; omega
        · rw [if_neg e, ← List.getD_eq_getElem?_getD]
          by_cases c : u < v
          · rw [if_pos c] at h1; rw [if_pos (by omega)]; exact h1
          · rw [if_neg c] at h1; rw [if_neg (by omega)]; exact h1
    have : v = m := by omega
    subst this
    repeat' (first|refine za ?_|refine zA ?_|refine zB ?_|refine zb ?_|refine zc ?_|refine ze ?_|refine zd ?_|refine zC ?_|refine zD ?_|refine zE ?_|refine zF ?_|refine zG ?_|refine zH ?_|refine zI ?_|refine zJ ?_|refine zK ?_|refine zL ?_|refine zM ?_|refine zN ?_|refine zO ?_|refine zP ?_|refine zQ ?_|refine zR ?_|refine zS ?_|refine zU ?_|refine zV ?_|refine zW ?_|refine zt (fun hcd => ?_) (fun hcd => ?_)|refine zu (fun hcd => ?_) (fun hcd => ?_)|refine zX ?_|refine zY ?_|refine zv (fun hcd => ?_) (fun hcd => ?_)|refine zk ?_|refine zl ?_|refine zm ?_|refine zn ?_|refine zf ?_|refine zg ?_|refine zj ?_|refine zZ ?_|refine zh ?_|refine zi ?_|refine zo ?_|refine zp ?_|refine zq ?_|refine zr ?_|refine zs ?_)
    refine ⟨k + 1, C', ⟨rfl, trivial⟩, ⟨by omega, hC, hCl, fun u hu => ?_, Ch.trans' (hE.trans hEf) hCg fun k hk e => by omega⟩, by omega⟩
    have h1 := hCv u hu
    rw [if_pos hu] at h1
    rw [h1]; congr 1; omega
end Go.Proofs.Ytibegggcinonkaa
