/- bags: the reference's Peel. -/
import Derived.Test.YtibegggcinonkaaR3
namespace Go.Proofs.Ytibegggcinonkaa
open Gv
theorem neighbors_is (ve vl : Value) (L : List (Int × Int)) (R : List Bool) (v nu : Int) (w : World) (h : Pairs2 w ve L) (hR : Bls w vl R) (hl : L.length ≤ 1000)
    (hG : ∀ k, k < L.length → 0 ≤ (ed L k).1 ∧ (ed L k).1 < (ed L k).2 ∧ (ed L k).2 < R.length) (hnu : nbP L (bset R) v = nu) :
    Calls Try.prog 44 #[ve, vl, .int .i64 v] w (Ret fun u w' => u = .int .i64 nu ∧ w' = w) := by
  subst hnu; exact neighbors_any ve vl L R v w h hR hl hG
set_option maxRecDepth 20000 in
set_option maxHeartbeats 4000000 in
theorem rpeel_any (m : Nat) (ve : Value) (L : List (Int × Int)) (w : World) (h : Pairs2 w ve L) (hl : L.length ≤ 1000) (hG : ∀ k, k < L.length → 0 ≤ (ed L k).1 ∧ (ed L k).1 < (ed L k).2 ∧ (ed L k).2 < (m : Int)) (hm : 1 ≤ m ∧ m ≤ 16) :
    Calls Try.prog 23 #[.int .i64 m, ve] w (Ret fun v w' => (∃ vo, v = .tuple #[vo, .int .i64 (peM L m m)] ∧ OwnI w' w.heap.size 3 vo (peO L m m)) ∧ Ext w w') := by
  obtain ⟨qe, ce, rfl, hqe⟩ := h.slice
  refine calls_of_wc (args := [.int .i64 m, .slice qe L.length ce]) Try.func23 rfl ?_ ?_; kernel_rfl
  repeat' (first|refine za ?_|refine zA ?_|refine zB ?_|refine zb ?_|refine zc ?_|refine ze ?_|refine zd ?_|refine zC ?_|refine zD ?_|refine zE ?_|refine zF ?_|refine zG ?_|refine zH ?_|refine zI ?_|refine zJ ?_|refine zK ?_|refine zL ?_|refine zM ?_|refine zN ?_|refine zO ?_|refine zP ?_|refine zQ ?_|refine zR ?_|refine zS ?_|refine zU ?_|refine zV ?_|refine zW ?_|refine zt (fun hcd => ?_) (fun hcd => ?_)|refine zu (fun hcd => ?_) (fun hcd => ?_)|refine zX ?_|refine zY ?_|refine zv (fun hcd => ?_) (fun hcd => ?_)|refine zk ?_|refine zl ?_|refine zm ?_|refine zn ?_|refine zf ?_|refine zg ?_|refine zj ?_|refine zZ ?_|refine zh ?_|refine zi ?_|refine zo ?_|refine zp ?_|refine zq ?_|refine zr ?_|refine zs ?_)
  refine r_make_b (n := m) el80 rfl rfl (by omega) fun w1 h1 hE1 hs1 => ?_
  obtain ⟨g, eg⟩ : ∃ b, b = w.heap.size := ⟨_, rfl⟩
  rw [← eg] at h1 ⊢
  have hps : (some (⟨g, 0, none⟩ : Addr)).isSome = true := rfl
  repeat' (first|refine za ?_|refine zA ?_|refine zB ?_|refine zb ?_|refine zc ?_|refine ze ?_|refine zd ?_|refine zC ?_|refine zD ?_|refine zE ?_|refine zF ?_|refine zG ?_|refine zH ?_|refine zI ?_|refine zJ ?_|refine zK ?_|refine zL ?_|refine zM ?_|refine zN ?_|refine zO ?_|refine zP ?_|refine zQ ?_|refine zR ?_|refine zS ?_|refine zU ?_|refine zV ?_|refine zW ?_|refine zt (fun hcd => ?_) (fun hcd => ?_)|refine zu (fun hcd => ?_) (fun hcd => ?_)|refine zX ?_|refine zY ?_|refine zv (fun hcd => ?_) (fun hcd => ?_)|refine zk ?_|refine zl ?_|refine zm ?_|refine zn ?_|refine zf ?_|refine zg ?_|refine zj ?_|refine zZ ?_|refine zh ?_|refine zi ?_|refine zo ?_|refine zp ?_|refine zq ?_|refine zr ?_|refine zs ?_)
  refine wc_loop2 [0, 1, 6] (fun (v : Nat) (_ : List Bool) => [(7, .int .i64 v)]) (fun v R wk => v ≤ m ∧ OwnL wk g 4 (.slice (some ⟨g, 0, none⟩) m m) R ∧ R.length = m ∧ (∀ u, u < v → R.getD u false = true) ∧ Ext w wk) (fun v _ => m - v) 0 _ rfl ⟨rfl, trivial⟩ ⟨by omega, h1, by simp, fun u hu => by omega, hE1⟩ ?_
  clear h1 hE1 hs1
  rintro v R wk x ⟨hv, hL, hRl, hall, hE⟩
  by_cases hvm : v < m
  · repeat' (first|refine za ?_|refine zA ?_|refine zB ?_|refine zb ?_|refine zc ?_|refine ze ?_|refine zd ?_|refine zC ?_|refine zD ?_|refine zE ?_|refine zF ?_|refine zG ?_|refine zH ?_|refine zI ?_|refine zJ ?_|refine zK ?_|refine zL ?_|refine zM ?_|refine zN ?_|refine zO ?_|refine zP ?_|refine zQ ?_|refine zR ?_|refine zS ?_|refine zU ?_|refine zV ?_|refine zW ?_|refine zt (fun hcd => ?_) (fun hcd => ?_)|refine zu (fun hcd => ?_) (fun hcd => ?_)|refine zX ?_|refine zY ?_|refine zv (fun hcd => ?_) (fun hcd => ?_)|refine zk ?_|refine zl ?_|refine zm ?_|refine zn ?_|refine zf ?_|refine zg ?_|refine zj ?_|refine zZ ?_|refine zh ?_|refine zi ?_|refine zo ?_|refine zp ?_|refine zq ?_|refine zr ?_|refine zs ?_)
    refine r_st_b (i := v) (e := 4) (base := g) rfl hL rfl rfl (by omega) fun w3 h3 hg3 hs3 => ?_
    have hC3 : Ch (fun k => k = g) wk w3 := Ch.grown hg3 fun k hk => (Option.some.inj hk).symm
    repeat' (first|refine za ?_|refine zA ?_|refine zB ?_|refine zb ?_|refine zc ?_|refine ze ?_|refine zd ?_|refine zC ?_|refine zD ?_|refine zE ?_|refine zF ?_|refine zG ?_|refine zH ?_|refine zI ?_|refine zJ ?_|refine zK ?_|refine zL ?_|refine zM ?_|refine zN ?_|refine zO ?_|refine zP ?_|refine zQ ?_|refine zR ?_|refine zS ?_|refine zU ?_|refine zV ?_|refine zW ?_|refine zt (fun hcd => ?_) (fun hcd => ?_)|refine zu (fun hcd => ?_) (fun hcd => ?_)|refine zX ?_|refine zY ?_|refine zv (fun hcd => ?_) (fun hcd => ?_)|refine zk ?_|refine zl ?_|refine zm ?_|refine zn ?_|refine zf ?_|refine zg ?_|refine zj ?_|refine zZ ?_|refine zh ?_|refine zi ?_|refine zo ?_|refine zp ?_|refine zq ?_|refine zr ?_|refine zs ?_)
    refine ⟨v + 1, _, ⟨rfl, trivial⟩, ⟨by omega, h3, by rw [List.length_set]; exact hRl, fun u hu => ?_, Ch.trans' hE hC3 fun k hk e => by omega⟩, by omega⟩
    rw [set_getB (by omega)]
    split
    · rfl
    · exact hall u (by omega)
  have : v = m := by omega
  subst this
  repeat' (first|refine za ?_|refine zA ?_|refine zB ?_|refine zb ?_|refine zc ?_|refine ze ?_|refine zd ?_|refine zC ?_|refine zD ?_|refine zE ?_|refine zF ?_|refine zG ?_|refine zH ?_|refine zI ?_|refine zJ ?_|refine zK ?_|refine zL ?_|refine zM ?_|refine zN ?_|refine zO ?_|refine zP ?_|refine zQ ?_|refine zR ?_|refine zS ?_|refine zU ?_|refine zV ?_|refine zW ?_|refine zt (fun hcd => ?_) (fun hcd => ?_)|refine zu (fun hcd => ?_) (fun hcd => ?_)|refine zX ?_|refine zY ?_|refine zv (fun hcd => ?_) (fun hcd => ?_)|refine zk ?_|refine zl ?_|refine zm ?_|refine zn ?_|refine zf ?_|refine zg ?_|refine zj ?_|refine zZ ?_|refine zh ?_|refine zi ?_|refine zo ?_|refine zp ?_|refine zq ?_|refine zr ?_|refine zs ?_)
  refine wc_loop3 [0, 1, 6] (fun (_ : Nat) (vo : Value) (ms : Int) => [(8, vo), (9, .int .i64 ms)]) (fun r vo ms wr => r ≤ v ∧ OwnI wr g 3 vo (peO L v r) ∧ ms = peM L v r ∧ (∀ g', vo.ownBlock = some g' → g' ≠ g) ∧ (∃ R, OwnL wr g 4 (.slice (some ⟨g, 0, none⟩) v v) R ∧ R.length = v ∧ ∀ u : Nat, u < v → (R.getD u false = true ↔ (u : Int) ∉ peO L v r)) ∧ Ext w wr) (fun r _ _ => v - r) 0 _ 0 rfl ⟨rfl, rfl, trivial⟩
    ⟨by omega, World.ownsRow_nil _ _ _ _, rfl, (fun g' hg' => by cases hg'), ⟨R, hL, hRl, fun u hu => by rw [hall u hu]; simp [peO]⟩, hE⟩ ?_
  clear hL hRl hall hE
  rintro r vo ms wr x ⟨hr, hO, hms, hdj, ⟨R, hL, hRl, hRv⟩, hE⟩
  have hol := peO_len (L := L) (n := v) r
  obtain ⟨qo, co, rfl, hqo⟩ := (OwnI.ints hO).slice
  have hps : (some (⟨g, 0, none⟩ : Addr)).isSome = true := rfl
  by_cases hrm : r < v
  rotate_left 1
  · have : r = v := by omega
    subst this
    repeat' (first|refine za ?_|refine zA ?_|refine zB ?_|refine zb ?_|refine zc ?_|refine ze ?_|refine zd ?_|refine zC ?_|refine zD ?_|refine zE ?_|refine zF ?_|refine zG ?_|refine zH ?_|refine zI ?_|refine zJ ?_|refine zK ?_|refine zL ?_|refine zM ?_|refine zN ?_|refine zO ?_|refine zP ?_|refine zQ ?_|refine zR ?_|refine zS ?_|refine zU ?_|refine zV ?_|refine zW ?_|refine zt (fun hcd => ?_) (fun hcd => ?_)|refine zu (fun hcd => ?_) (fun hcd => ?_)|refine zX ?_|refine zY ?_|refine zv (fun hcd => ?_) (fun hcd => ?_)|refine zk ?_|refine zl ?_|refine zm ?_|refine zn ?_|refine zf ?_|refine zg ?_|refine zj ?_|refine zZ ?_|refine zh ?_|refine zi ?_|refine zo ?_|refine zp ?_|refine zq ?_|refine zr ?_|refine zs ?_)
    refine post2 (v1 := .slice qo (peO L r r).length co) (v2 := .int .i64 ms) rfl rfl rfl ⟨⟨_, by rw [hms], hO⟩, hE⟩
  have hpk := pk_ok (L := L) (n := v) hrm
  have hO1 : peO L v (r + 1) = peO L v r ++ [pk L (peO L v r) v] := rfl
  have hM1 : peM L v (r + 1) = max ms (nbP L (out (peO L v r)) (pk L (peO L v r) v)) := by rw [hms]; rfl
  generalize hOO : peO L v r = O at *
  generalize hpp : pk L O v = p at *
  repeat' (first|refine za ?_|refine zA ?_|refine zB ?_|refine zb ?_|refine zc ?_|refine ze ?_|refine zd ?_|refine zC ?_|refine zD ?_|refine zE ?_|refine zF ?_|refine zG ?_|refine zH ?_|refine zI ?_|refine zJ ?_|refine zK ?_|refine zL ?_|refine zM ?_|refine zN ?_|refine zO ?_|refine zP ?_|refine zQ ?_|refine zR ?_|refine zS ?_|refine zU ?_|refine zV ?_|refine zW ?_|refine zt (fun hcd => ?_) (fun hcd => ?_)|refine zu (fun hcd => ?_) (fun hcd => ?_)|refine zX ?_|refine zY ?_|refine zv (fun hcd => ?_) (fun hcd => ?_)|refine zk ?_|refine zl ?_|refine zm ?_|refine zn ?_|refine zf ?_|refine zg ?_|refine zj ?_|refine zZ ?_|refine zh ?_|refine zi ?_|refine zo ?_|refine zp ?_|refine zq ?_|refine zr ?_|refine zs ?_)
  refine wc_loop3 [0, 1, 6, 8, 9] (fun (u : Nat) (q f : Int) => [(10, .int .i64 q), (11, .int .i64 f), (12, .int .i64 u)]) (fun u q f wk => u ≤ v ∧ q = pk L O u ∧ (q < 0 ∨ f = nbP L (out O) q) ∧ wk = wr) (fun u _ _ => v - u) 0 (-1) 0 rfl ⟨rfl, rfl, rfl, trivial⟩ ⟨by omega, rfl, .inl (by decide), rfl⟩ ?_
  rintro u q f wk x ⟨hu, hq, hf, rfl⟩
  by_cases huv : u < v
  · have hrd := (OwnL.bls hL).rd (i := u) (by omega)
    have hin := hRv u huv
    have hpu : pk L O (u + 1) = if (u : Int) ∉ O ∧ (pk L O u < 0 ∨ nbP L (out O) u < nbP L (out O) (pk L O u)) then (u : Int) else pk L O u := rfl
    rw [← hq] at hpu
    clear hq
    by_cases cO : (u : Int) ∈ O
    · have hf0 : R.getD u false = false := by
        cases hb : R.getD u false with
        | false => rfl
        | true => exact absurd cO (hin.1 hb)
      rw [hf0] at hrd
      rw [if_neg fun c => c.1 cO] at hpu
      repeat' (first|refine za ?_|refine zA ?_|refine zB ?_|refine zb ?_|refine zc ?_|refine ze ?_|refine zd ?_|refine zC ?_|refine zD ?_|refine zE ?_|refine zF ?_|refine zG ?_|refine zH ?_|refine zI ?_|refine zJ ?_|refine zK ?_|refine zL ?_|refine zM ?_|refine zN ?_|refine zO ?_|refine zP ?_|refine zQ ?_|refine zR ?_|refine zS ?_|refine zU ?_|refine zV ?_|refine zW ?_|refine zt (fun hcd => ?_) (fun hcd => ?_)|refine zu (fun hcd => ?_) (fun hcd => ?_)|refine zX ?_|refine zY ?_|refine zv (fun hcd => ?_) (fun hcd => ?_)|refine zk ?_|refine zl ?_|refine zm ?_|refine zn ?_|refine zf ?_|refine zg ?_|refine zj ?_|refine zZ ?_|refine zh ?_|refine zi ?_|refine zo ?_|refine zp ?_|refine zq ?_|refine zr ?_|refine zs ?_)
      exact ⟨u + 1, q, f, ⟨rfl, rfl, rfl, trivial⟩, ⟨by omega, hpu.symm, hf, rfl⟩, by omega⟩
    · have ht := hin.2 cO
      rw [ht] at hrd
      obtain ⟨nu, hnu⟩ : ∃ nu, nbP L (out O) u = nu := ⟨_, rfl⟩
      have hnb0 := nbP_nonneg (L := L) (P := out O) (v := (u : Int))
      rw [hnu] at hpu hnb0
      have hnb := neighbors_is _ _ L R u nu _ (h.ext hE) (OwnL.bls hL) hl (by rw [hRl]; exact hG) (by rw [bset_out hRl hRv hG]; exact hnu)
      repeat' (first|refine za ?_|refine zA ?_|refine zB ?_|refine zb ?_|refine zc ?_|refine ze ?_|refine zd ?_|refine zC ?_|refine zD ?_|refine zE ?_|refine zF ?_|refine zG ?_|refine zH ?_|refine zI ?_|refine zJ ?_|refine zK ?_|refine zL ?_|refine zM ?_|refine zN ?_|refine zO ?_|refine zP ?_|refine zQ ?_|refine zR ?_|refine zS ?_|refine zU ?_|refine zV ?_|refine zW ?_|refine zt (fun hcd => ?_) (fun hcd => ?_)|refine zu (fun hcd => ?_) (fun hcd => ?_)|refine zX ?_|refine zY ?_|refine zv (fun hcd => ?_) (fun hcd => ?_)|refine zk ?_|refine zl ?_|refine zm ?_|refine zn ?_|refine zf ?_|refine zg ?_|refine zj ?_|refine zZ ?_|refine zh ?_|refine zi ?_|refine zo ?_|refine zp ?_|refine zq ?_|refine zr ?_|refine zs ?_)
      (refine r_call (R := ?_) rfl ?_ ?_; rotate_left 1; focus exact hnb)
      rintro v9 w9 ⟨rfl, rfl⟩
      by_cases c1 : q < 0
      · rw [if_pos ⟨cO, .inl c1⟩] at hpu
        repeat' (first|refine za ?_|refine zA ?_|refine zB ?_|refine zb ?_|refine zc ?_|refine ze ?_|refine zd ?_|refine zC ?_|refine zD ?_|refine zE ?_|refine zF ?_|refine zG ?_|refine zH ?_|refine zI ?_|refine zJ ?_|refine zK ?_|refine zL ?_|refine zM ?_|refine zN ?_|refine zO ?_|refine zP ?_|refine zQ ?_|refine zR ?_|refine zS ?_|refine zU ?_|refine zV ?_|refine zW ?_|refine zt (fun hcd => ?_) (fun hcd => ?_)|refine zu (fun hcd => ?_) (fun hcd => ?_)|refine zX ?_|refine zY ?_|refine zv (fun hcd => ?_) (fun hcd => ?_)|refine zk ?_|refine zl ?_|refine zm ?_|refine zn ?_|refine zf ?_|refine zg ?_|refine zj ?_|refine zZ ?_|refine zh ?_|refine zi ?_|refine zo ?_|refine zp ?_|refine zq ?_|refine zr ?_|refine zs ?_)
        exact ⟨u + 1, u, nu, ⟨rfl, rfl, rfl, trivial⟩, ⟨by omega, hpu.symm, .inr hnu.symm, rfl⟩, by omega⟩
      · have hfq : f = nbP L (out O) q := hf.elim (fun c => absurd c c1) id
        rw [← hfq] at hpu
        by_cases c2 : nu < f
        · rw [if_pos ⟨cO, .inr c2⟩] at hpu
          repeat' (first|refine za ?_|refine zA ?_|refine zB ?_|refine zb ?_|refine zc ?_|refine ze ?_|refine zd ?_|refine zC ?_|refine zD ?_|refine zE ?_|refine zF ?_|refine zG ?_|refine zH ?_|refine zI ?_|refine zJ ?_|refine zK ?_|refine zL ?_|refine zM ?_|refine zN ?_|refine zO ?_|refine zP ?_|refine zQ ?_|refine zR ?_|refine zS ?_|refine zU ?_|refine zV ?_|refine zW ?_|refine zt (fun hcd => ?_) (fun hcd => ?_)|refine zu (fun hcd => ?_) (fun hcd => ?_)|refine zX ?_|refine zY ?_|refine zv (fun hcd => ?_) (fun hcd => ?_)|refine zk ?_|refine zl ?_|refine zm ?_|refine zn ?_|refine zf ?_|refine zg ?_|refine zj ?_|refine zZ ?_|refine zh ?_|refine zi ?_|refine zo ?_|refine zp ?_|refine zq ?_|refine zr ?_|refine zs ?_)
          exact ⟨u + 1, u, nu, ⟨rfl, rfl, rfl, trivial⟩, ⟨by omega, hpu.symm, .inr hnu.symm, rfl⟩, by omega⟩
        · rw [if_neg (fun c => c.2.elim c1 c2)] at hpu
          repeat' (first|refine za ?_|refine zA ?_|refine zB ?_|refine zb ?_|refine zc ?_|refine ze ?_|refine zd ?_|refine zC ?_|refine zD ?_|refine zE ?_|refine zF ?_|refine zG ?_|refine zH ?_|refine zI ?_|refine zJ ?_|refine zK ?_|refine zL ?_|refine zM ?_|refine zN ?_|refine zO ?_|refine zP ?_|refine zQ ?_|refine zR ?_|refine zS ?_|refine zU ?_|refine zV ?_|refine zW ?_|refine zt (fun hcd => ?_) (fun hcd => ?_)|refine zu (fun hcd => ?_) (fun hcd => ?_)|refine zX ?_|refine zY ?_|refine zv (fun hcd => ?_) (fun hcd => ?_)|refine zk ?_|refine zl ?_|refine zm ?_|refine zn ?_|refine zf ?_|refine zg ?_|refine zj ?_|refine zZ ?_|refine zh ?_|refine zi ?_|refine zo ?_|refine zp ?_|refine zq ?_|refine zr ?_|refine zs ?_)
          exact ⟨u + 1, q, f, ⟨rfl, rfl, rfl, trivial⟩, ⟨by omega, hpu.symm, .inr hfq, rfl⟩, by omega⟩
  have : u = v := by omega
  subst this
  obtain rfl := (hq.trans hpp).symm
  have hfp : f = nbP L (out O) p := hf.elim (fun c => by omega) id
  repeat' (first|refine za ?_|refine zA ?_|refine zB ?_|refine zb ?_|refine zc ?_|refine ze ?_|refine zd ?_|refine zC ?_|refine zD ?_|refine zE ?_|refine zF ?_|refine zG ?_|refine zH ?_|refine zI ?_|refine zJ ?_|refine zK ?_|refine zL ?_|refine zM ?_|refine zN ?_|refine zO ?_|refine zP ?_|refine zQ ?_|refine zR ?_|refine zS ?_|refine zU ?_|refine zV ?_|refine zW ?_|refine zt (fun hcd => ?_) (fun hcd => ?_)|refine zu (fun hcd => ?_) (fun hcd => ?_)|refine zX ?_|refine zY ?_|refine zv (fun hcd => ?_) (fun hcd => ?_)|refine zk ?_|refine zl ?_|refine zm ?_|refine zn ?_|refine zf ?_|refine zg ?_|refine zj ?_|refine zZ ?_|refine zh ?_|refine zi ?_|refine zo ?_|refine zp ?_|refine zq ?_|refine zr ?_|refine zs ?_)
  refine r_st_b (i := p.toNat) (e := 4) (base := g) rfl hL rfl rfl (by omega) fun w3 h3 hg3 hs3 => ?_
  have hC3 : Ch (fun k => k = g) wk w3 := Ch.grown hg3 fun k hk => (Option.some.inj hk).symm
  have hO3 := ownsRow_keep hO hC3 fun g' hg' e => hdj g' hg' e
  repeat' (first|refine za ?_|refine zA ?_|refine zB ?_|refine zb ?_|refine zc ?_|refine ze ?_|refine zd ?_|refine zC ?_|refine zD ?_|refine zE ?_|refine zF ?_|refine zG ?_|refine zH ?_|refine zI ?_|refine zJ ?_|refine zK ?_|refine zL ?_|refine zM ?_|refine zN ?_|refine zO ?_|refine zP ?_|refine zQ ?_|refine zR ?_|refine zS ?_|refine zU ?_|refine zV ?_|refine zW ?_|refine zt (fun hcd => ?_) (fun hcd => ?_)|refine zu (fun hcd => ?_) (fun hcd => ?_)|refine zX ?_|refine zY ?_|refine zv (fun hcd => ?_) (fun hcd => ?_)|refine zk ?_|refine zl ?_|refine zm ?_|refine zn ?_|refine zf ?_|refine zg ?_|refine zj ?_|refine zZ ?_|refine zh ?_|refine zi ?_|refine zo ?_|refine zp ?_|refine zq ?_|refine zr ?_|refine zs ?_)
  refine r_append1_i el23 hO3 rfl rfl (by omega) (by have := hE.size; have := hC3.size; omega) ?_
  intro vo' wd zd hOd hgd _ hnew
  have hCd : Ch (fun k => (Value.slice qo O.length co).ownBlock = some k) w3 wd := Ch.grown hgd fun k hk => hk
  have hLd := ownsRow_keep h3 hCd fun g' hg' e => by have : g = g' := Option.some.inj hg'; exact hdj g' e this.symm
  have hglt := (World.ownsRow.lt h3 g rfl).2
  have hOb : ∀ k, (Value.slice qo O.length co).ownBlock = some k → g ≤ k := fun k hk => (World.ownsRow.lt hO k hk).1
  repeat' (first|refine za ?_|refine zA ?_|refine zB ?_|refine zb ?_|refine zc ?_|refine ze ?_|refine zd ?_|refine zC ?_|refine zD ?_|refine zE ?_|refine zF ?_|refine zG ?_|refine zH ?_|refine zI ?_|refine zJ ?_|refine zK ?_|refine zL ?_|refine zM ?_|refine zN ?_|refine zO ?_|refine zP ?_|refine zQ ?_|refine zR ?_|refine zS ?_|refine zU ?_|refine zV ?_|refine zW ?_|refine zt (fun hcd => ?_) (fun hcd => ?_)|refine zu (fun hcd => ?_) (fun hcd => ?_)|refine zX ?_|refine zY ?_|refine zv (fun hcd => ?_) (fun hcd => ?_)|refine zk ?_|refine zl ?_|refine zm ?_|refine zn ?_|refine zf ?_|refine zg ?_|refine zj ?_|refine zZ ?_|refine zh ?_|refine zi ?_|refine zo ?_|refine zp ?_|refine zq ?_|refine zr ?_|refine zs ?_)
  refine wc_region ?_
  repeat' (first|refine za ?_|refine zA ?_|refine zB ?_|refine zb ?_|refine zc ?_|refine ze ?_|refine zd ?_|refine zC ?_|refine zD ?_|refine zE ?_|refine zF ?_|refine zG ?_|refine zH ?_|refine zI ?_|refine zJ ?_|refine zK ?_|refine zL ?_|refine zM ?_|refine zN ?_|refine zO ?_|refine zP ?_|refine zQ ?_|refine zR ?_|refine zS ?_|refine zU ?_|refine zV ?_|refine zW ?_|refine zt (fun hcd => ?_) (fun hcd => ?_)|refine zu (fun hcd => ?_) (fun hcd => ?_)|refine zX ?_|refine zY ?_|refine zv (fun hcd => ?_) (fun hcd => ?_)|refine zk ?_|refine zl ?_|refine zm ?_|refine zn ?_|refine zf ?_|refine zg ?_|refine zj ?_|refine zZ ?_|refine zh ?_|refine zi ?_|refine zo ?_|refine zp ?_|refine zq ?_|refine zr ?_|refine zs ?_)
  refine r_max (c := max ms f) rfl rfl ?_ ?_
  · rcases Int.le_total ms f with c | c
    · rw [Int.max_eq_right c]; split <;> omega
    · rw [Int.max_eq_left c, if_neg (by omega)]
  repeat' (first|refine za ?_|refine zA ?_|refine zB ?_|refine zb ?_|refine zc ?_|refine ze ?_|refine zd ?_|refine zC ?_|refine zD ?_|refine zE ?_|refine zF ?_|refine zG ?_|refine zH ?_|refine zI ?_|refine zJ ?_|refine zK ?_|refine zL ?_|refine zM ?_|refine zN ?_|refine zO ?_|refine zP ?_|refine zQ ?_|refine zR ?_|refine zS ?_|refine zU ?_|refine zV ?_|refine zW ?_|refine zt (fun hcd => ?_) (fun hcd => ?_)|refine zu (fun hcd => ?_) (fun hcd => ?_)|refine zX ?_|refine zY ?_|refine zv (fun hcd => ?_) (fun hcd => ?_)|refine zk ?_|refine zl ?_|refine zm ?_|refine zn ?_|refine zf ?_|refine zg ?_|refine zj ?_|refine zZ ?_|refine zh ?_|refine zi ?_|refine zo ?_|refine zp ?_|refine zq ?_|refine zr ?_|refine zs ?_)
  refine ⟨r + 1, vo', _, ⟨rfl, rfl, trivial⟩, ⟨by omega, by rw [hO1]; exact hOd, by rw [hM1, hfp], fun g' hg' => ?_, ⟨_, hLd, by rw [List.length_set]; exact hRl, fun z hz => ?_⟩, Ch.trans' (Ch.trans' hE hC3 fun k hk e => by omega) hCd fun k hk e => by have := hOb k e; omega⟩, by omega⟩
  · rcases hnew g' hg' with e | e
    · exact hdj g' e
    · omega
  · rw [set_getB (by omega), hO1, List.mem_append, List.mem_singleton]
    split
    · rename_i c
      constructor
      · intro e; cases e
      · intro e; exact absurd (.inr (by omega)) e
    · rename_i c
      rw [hRv z hz]
      constructor
      · rintro e (e2 | e2)
        · exact e e2
        · omega
      · intro e e2; exact e (.inl e2)
end Go.Proofs.Ytibegggcinonkaa
