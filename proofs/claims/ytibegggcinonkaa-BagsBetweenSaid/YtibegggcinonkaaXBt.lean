/- The law BagsBetween, walked: it answers true for every input. -/
import Derived.Test.YtibegggcinonkaaPk
import Derived.Test.YtibegggcinonkaaPBt
import Derived.Test.YtibegggcinonkaaPR
import Derived.Test.YtibegggcinonkaaOr
import Derived.Test.YtibegggcinonkaaR2
import Derived.Test.YtibegggcinonkaaAw
namespace Go.Proofs.Ytibegggcinonkaa
open Gv
set_option maxRecDepth 20000 in
set_option maxHeartbeats 8000000 in
theorem between_true (n0 : Int) (v1 : Value) (L0 : List (Int × Int)) (w : World) (h1 : Pairs2 w v1 L0) :
    Calls Try.prog 9 #[.int .i64 n0, v1] w (Ret fun v w' => v = .bool true ∧ Ext w w') := by
  obtain ⟨q1, c1, rfl, hq1⟩ := h1.slice
  have hmd := mod_bnd n0 (n := 12) (by decide)
  obtain ⟨n, hn'⟩ : ∃ n : Nat, 1 + IntKind.u64.wrap n0 % 12 = n := ⟨(1 + IntKind.u64.wrap n0 % 12).toNat, by omega⟩
  obtain ⟨m0, hm0⟩ : ∃ m0, IntKind.u64.wrap n0 % 12 = m0 := ⟨_, rfl⟩
  have hmod := fun w => mod_is n0 12 m0 w (by decide) hm0
  rw [hm0] at hmd hn'
  have hn : 1 ≤ n ∧ n ≤ 12 := by omega
  clear hm0
  refine calls_of_wc (args := [.int .i64 n0, .slice q1 L0.length c1]) Try.func9 rfl ?_ ?_; kernel_rfl
  repeat' (first|refine za ?_|refine zA ?_|refine zB ?_|refine zb ?_|refine zc ?_|refine ze ?_|refine zd ?_|refine zC ?_|refine zD ?_|refine zE ?_|refine zF ?_|refine zG ?_|refine zH ?_|refine zI ?_|refine zJ ?_|refine zK ?_|refine zL ?_|refine zM ?_|refine zN ?_|refine zO ?_|refine zP ?_|refine zQ ?_|refine zR ?_|refine zS ?_|refine zU ?_|refine zV ?_|refine zW ?_|refine zt (fun hcd => ?_) (fun hcd => ?_)|refine zu (fun hcd => ?_) (fun hcd => ?_)|refine zX ?_|refine zY ?_|refine zv (fun hcd => ?_) (fun hcd => ?_)|refine zk ?_|refine zl ?_|refine zm ?_|refine zn ?_|refine zf ?_|refine zg ?_|refine zj ?_|refine zZ ?_|refine zh ?_|refine zi ?_|refine zo ?_|refine zp ?_|refine zq ?_|refine zr ?_|refine zs ?_)
  (refine r_call_q (v := ?_) rfl ?_ ?_; rotate_left 1; focus exact hmod _)
  repeat' (first|refine za ?_|refine zA ?_|refine zB ?_|refine zb ?_|refine zc ?_|refine ze ?_|refine zd ?_|refine zC ?_|refine zD ?_|refine zE ?_|refine zF ?_|refine zG ?_|refine zH ?_|refine zI ?_|refine zJ ?_|refine zK ?_|refine zL ?_|refine zM ?_|refine zN ?_|refine zO ?_|refine zP ?_|refine zQ ?_|refine zR ?_|refine zS ?_|refine zU ?_|refine zV ?_|refine zW ?_|refine zt (fun hcd => ?_) (fun hcd => ?_)|refine zu (fun hcd => ?_) (fun hcd => ?_)|refine zX ?_|refine zY ?_|refine zv (fun hcd => ?_) (fun hcd => ?_)|refine zk ?_|refine zl ?_|refine zm ?_|refine zn ?_|refine zf ?_|refine zg ?_|refine zj ?_|refine zZ ?_|refine zh ?_|refine zi ?_|refine zo ?_|refine zp ?_|refine zq ?_|refine zr ?_|refine zs ?_)
  rw [hn']
  clear hmd hn' hmod
  (refine r_call (R := ?_) rfl ?_ ?_; rotate_left 1; focus exact tame_any n _ L0 _ h1 (by omega))
  rintro ve wa ⟨L, hPa, hG, hEa⟩
  obtain ⟨qe, ce, rfl, hqe⟩ := (OwnP.pairs hPa).slice
  have hP := OwnP.pairs hPa
  have hel := fun g hg => (World.ownsRow.lt hPa g hg).2
  have hLl := hG.len
  have hGe := hG.ed
  clear hPa h1 hq1
  repeat' (first|refine za ?_|refine zA ?_|refine zB ?_|refine zb ?_|refine zc ?_|refine ze ?_|refine zd ?_|refine zC ?_|refine zD ?_|refine zE ?_|refine zF ?_|refine zG ?_|refine zH ?_|refine zI ?_|refine zJ ?_|refine zK ?_|refine zL ?_|refine zM ?_|refine zN ?_|refine zO ?_|refine zP ?_|refine zQ ?_|refine zR ?_|refine zS ?_|refine zU ?_|refine zV ?_|refine zW ?_|refine zt (fun hcd => ?_) (fun hcd => ?_)|refine zu (fun hcd => ?_) (fun hcd => ?_)|refine zX ?_|refine zY ?_|refine zv (fun hcd => ?_) (fun hcd => ?_)|refine zk ?_|refine zl ?_|refine zm ?_|refine zn ?_|refine zf ?_|refine zg ?_|refine zj ?_|refine zZ ?_|refine zh ?_|refine zi ?_|refine zo ?_|refine zp ?_|refine zq ?_|refine zr ?_|refine zs ?_)
  (refine r_call (R := ?_) rfl ?_ ?_; rotate_left 1; focus exact densest_any n _ L _ hP (by omega) hel)
  rintro v wb ⟨hR, hEb⟩
  unfold DensR at hR
  rw [if_pos hG] at hR
  obtain ⟨S, Sh, vs, vsh, rfl, hS, hSh, _, hD, _⟩ := hR
  obtain ⟨qs, cs, rfl, hqs⟩ := (OwnI.ints hS).slice
  obtain ⟨qp, cp, rfl, hqp⟩ := (OwnP.pairs hSh).slice
  have hSS := hD.isS
  have hSb := dens_bnd hG hSS
  have hhalf := dens_low (L := L) (S := S) (k := peM L n n) (c := 2) hD.pos (by decide) (core_half hGe (by omega) hD)
  have hup := dens_up (L := L) (S := S) (k := peM L n n) hD.pos (core_up hGe S.length S rfl hD.asc.nodup hD.rng)
  have hceil : ∀ r, MinH n L r → ((dnum L S : Int) + dden L S - 1) / dden L S = r := fun r hr => by
    obtain ⟨a1, a2⟩ := hr.ceil hD
    refine ceil_eq (by omega) (dens_up hD.pos a1) ?_ (by omega) hr.nn
    exact a2.imp id fun h => dens_lt hD.pos (by omega) h
  generalize dnum L S = fn at *
  generalize dden L S = fd at *
  clear hS hSh hSS hD
  repeat' (first|refine za ?_|refine zA ?_|refine zB ?_|refine zb ?_|refine zc ?_|refine ze ?_|refine zd ?_|refine zC ?_|refine zD ?_|refine zE ?_|refine zF ?_|refine zG ?_|refine zH ?_|refine zI ?_|refine zJ ?_|refine zK ?_|refine zL ?_|refine zM ?_|refine zN ?_|refine zO ?_|refine zP ?_|refine zQ ?_|refine zR ?_|refine zS ?_|refine zU ?_|refine zV ?_|refine zW ?_|refine zt (fun hcd => ?_) (fun hcd => ?_)|refine zu (fun hcd => ?_) (fun hcd => ?_)|refine zX ?_|refine zY ?_|refine zv (fun hcd => ?_) (fun hcd => ?_)|refine zk ?_|refine zl ?_|refine zm ?_|refine zn ?_|refine zf ?_|refine zg ?_|refine zj ?_|refine zZ ?_|refine zh ?_|refine zi ?_|refine zo ?_|refine zp ?_|refine zq ?_|refine zr ?_|refine zs ?_)
  refine r_allocN z48 fun w3 hb3 hE3 hs3 => ?_
  obtain ⟨b7, eb7⟩ : ∃ b, b = wb.heap.size := ⟨_, rfl⟩
  rw [← eb7] at hb3 ⊢
  repeat' (first|refine za ?_|refine zA ?_|refine zB ?_|refine zb ?_|refine zc ?_|refine ze ?_|refine zd ?_|refine zC ?_|refine zD ?_|refine zE ?_|refine zF ?_|refine zG ?_|refine zH ?_|refine zI ?_|refine zJ ?_|refine zK ?_|refine zL ?_|refine zM ?_|refine zN ?_|refine zO ?_|refine zP ?_|refine zQ ?_|refine zR ?_|refine zS ?_|refine zU ?_|refine zV ?_|refine zW ?_|refine zt (fun hcd => ?_) (fun hcd => ?_)|refine zu (fun hcd => ?_) (fun hcd => ?_)|refine zX ?_|refine zY ?_|refine zv (fun hcd => ?_) (fun hcd => ?_)|refine zk ?_|refine zl ?_|refine zm ?_|refine zn ?_|refine zf ?_|refine zg ?_|refine zj ?_|refine zZ ?_|refine zh ?_|refine zi ?_|refine zo ?_|refine zp ?_|refine zq ?_|refine zr ?_|refine zs ?_)
  refine r_stN (ws := [.int .i64 (fn : Int), .int .i64 (fd : Int)]) ag48 (by decide) hb3 (by rw [ints_length]; simp) rfl rfl rfl (by intro q hq; simp at hq; rcases hq with rfl | rfl <;> rfl) fun w4 h4 hC4 hs4 => ?_
  have hE4 : Ext wb w4 := Ch.trans' hE3 hC4 fun k hk e => by omega
  have hE04 := hEb.trans hE4
  have hel4 : ∀ g, (Value.slice qe L.length ce).ownBlock = some g → ∀ w', Ext wa w' → g < w'.heap.size := fun g hg w' h => by have := hel g hg; have := h.size; omega
  repeat' (first|refine za ?_|refine zA ?_|refine zB ?_|refine zb ?_|refine zc ?_|refine ze ?_|refine zd ?_|refine zC ?_|refine zD ?_|refine zE ?_|refine zF ?_|refine zG ?_|refine zH ?_|refine zI ?_|refine zJ ?_|refine zK ?_|refine zL ?_|refine zM ?_|refine zN ?_|refine zO ?_|refine zP ?_|refine zQ ?_|refine zR ?_|refine zS ?_|refine zU ?_|refine zV ?_|refine zW ?_|refine zt (fun hcd => ?_) (fun hcd => ?_)|refine zu (fun hcd => ?_) (fun hcd => ?_)|refine zX ?_|refine zY ?_|refine zv (fun hcd => ?_) (fun hcd => ?_)|refine zk ?_|refine zl ?_|refine zm ?_|refine zn ?_|refine zf ?_|refine zg ?_|refine zj ?_|refine zZ ?_|refine zh ?_|refine zi ?_|refine zo ?_|refine zp ?_|refine zq ?_|refine zr ?_|refine zs ?_)
  (refine r_call (R := ?_) rfl ?_ ?_; rotate_left 1; focus exact peelx_any (n : Int) _ L _ (hP.ext hE04) (by omega) (fun g hg => hel4 g hg _ hE04))
  rintro v w5 ⟨hR, hE5⟩
  unfold PeelR at hR
  rw [if_pos hG] at hR
  obtain ⟨vo, rfl, hO⟩ := hR
  have hIO := OwnI.ints hO
  simp only [Int.toNat_natCast] at hIO ⊢
  obtain ⟨qo, co, rfl, hqo⟩ := hIO.slice
  have hol := peO_len (L := L) (n := n) n
  have hE05 := hE04.trans hE5
  clear hO hIO
  rw [hol]
  repeat' (first|refine za ?_|refine zA ?_|refine zB ?_|refine zb ?_|refine zc ?_|refine ze ?_|refine zd ?_|refine zC ?_|refine zD ?_|refine zE ?_|refine zF ?_|refine zG ?_|refine zH ?_|refine zI ?_|refine zJ ?_|refine zK ?_|refine zL ?_|refine zM ?_|refine zN ?_|refine zO ?_|refine zP ?_|refine zQ ?_|refine zR ?_|refine zS ?_|refine zU ?_|refine zV ?_|refine zW ?_|refine zt (fun hcd => ?_) (fun hcd => ?_)|refine zu (fun hcd => ?_) (fun hcd => ?_)|refine zX ?_|refine zY ?_|refine zv (fun hcd => ?_) (fun hcd => ?_)|refine zk ?_|refine zl ?_|refine zm ?_|refine zn ?_|refine zf ?_|refine zg ?_|refine zj ?_|refine zZ ?_|refine zh ?_|refine zi ?_|refine zo ?_|refine zp ?_|refine zq ?_|refine zr ?_|refine zs ?_)
  (refine r_call (R := ?_) rfl ?_ ?_; rotate_left 1; focus exact cores_any (n : Int) _ L _ (hP.ext hE05) (by omega) (fun g hg => hel4 g hg _ hE05))
  rintro v w6 ⟨hR, hE6⟩
  unfold CoresR at hR
  rw [if_pos hG] at hR
  obtain ⟨vc, rfl, hC⟩ := hR
  have hIC := OwnI.ints hC
  simp only [Int.toNat_natCast] at hIC ⊢
  obtain ⟨qc, cc, rfl, hqc⟩ := hIC.slice
  have hcl := peC_len (L := L) (n := n) n
  rw [hcl]
  have hE06 := hE05.trans hE6
  clear hC
  have hk0 := peM_nonneg (L := L) (n := n) n
  have hk1 : peM L n n ≤ 1000 := by
    obtain ⟨v, hv, e⟩ := peC_top (L := L) (n := n) (by omega)
    have := core_lt (fun k hk => hG.2.2 k hk) hv
    omega
  have hcle := fun v hv => peC_le (L := L) (n := n) (v := v) hv
  obtain ⟨vt, hvt, hvte⟩ := peC_top (L := L) (n := n) (by omega)
  generalize hC : peC L n n = C at *
  generalize peM L n n = k at *
  repeat' (first|refine za ?_|refine zA ?_|refine zB ?_|refine zb ?_|refine zc ?_|refine ze ?_|refine zd ?_|refine zC ?_|refine zD ?_|refine zE ?_|refine zF ?_|refine zG ?_|refine zH ?_|refine zI ?_|refine zJ ?_|refine zK ?_|refine zL ?_|refine zM ?_|refine zN ?_|refine zO ?_|refine zP ?_|refine zQ ?_|refine zR ?_|refine zS ?_|refine zU ?_|refine zV ?_|refine zW ?_|refine zt (fun hcd => ?_) (fun hcd => ?_)|refine zu (fun hcd => ?_) (fun hcd => ?_)|refine zX ?_|refine zY ?_|refine zv (fun hcd => ?_) (fun hcd => ?_)|refine zk ?_|refine zl ?_|refine zm ?_|refine zn ?_|refine zf ?_|refine zg ?_|refine zj ?_|refine zZ ?_|refine zh ?_|refine zi ?_|refine zo ?_|refine zp ?_|refine zq ?_|refine zr ?_|refine zs ?_)
  (refine r_call (R := ?_) rfl ?_ ?_; rotate_left 1; focus exact orient_any n _ L _ (hP.ext hE06) (by omega) (fun g hg => hel4 g hg _ hE06))
  rintro v w7 ⟨hR, hE7⟩
  unfold OriR at hR
  rw [if_pos hG] at hR
  obtain ⟨H, pr, vh, vp, rfl, hH, hp, _, hO⟩ := hR
  have hIH := OwnI.ints hH
  obtain ⟨qh, ch, rfl, hqh⟩ := hIH.slice
  obtain ⟨qp2, cp2, rfl, hqp2⟩ := (OwnI.ints hp).slice
  have hHl : H.length = L.length := hO.1.1
  have hrng : ∀ x, x ∈ H → 0 ≤ x ∧ x < n := fun x hx => by
    obtain ⟨k, hk, rfl⟩ := List.getElem_of_mem hx
    have h3 := hO.1.2 k (by rw [← hHl]; exact hk)
    have h4 := hG.ed k (by rw [← hHl]; exact hk)
    rw [getD_lt hk] at h3
    omega
  have hmin := fun r (hr : IsHt H r) => hceil r (hO.min hr hGe (by omega))
  have hE07 := hE06.trans hE7
  have hE47 := (hE5.trans hE6).trans hE7
  clear hH hp hceil
  repeat' (first|refine za ?_|refine zA ?_|refine zB ?_|refine zb ?_|refine zc ?_|refine ze ?_|refine zd ?_|refine zC ?_|refine zD ?_|refine zE ?_|refine zF ?_|refine zG ?_|refine zH ?_|refine zI ?_|refine zJ ?_|refine zK ?_|refine zL ?_|refine zM ?_|refine zN ?_|refine zO ?_|refine zP ?_|refine zQ ?_|refine zR ?_|refine zS ?_|refine zU ?_|refine zV ?_|refine zW ?_|refine zt (fun hcd => ?_) (fun hcd => ?_)|refine zu (fun hcd => ?_) (fun hcd => ?_)|refine zX ?_|refine zY ?_|refine zv (fun hcd => ?_) (fun hcd => ?_)|refine zk ?_|refine zl ?_|refine zm ?_|refine zn ?_|refine zf ?_|refine zg ?_|refine zj ?_|refine zZ ?_|refine zh ?_|refine zi ?_|refine zo ?_|refine zp ?_|refine zq ?_|refine zr ?_|refine zs ?_)
  refine r_ldN (vs := [.int .i64 (fn : Int), .int .i64 (fd : Int)]) ag48 (by decide) (h4.ext hE47) rfl rfl ?_
  repeat' (first|refine za ?_|refine zA ?_|refine zB ?_|refine zb ?_|refine zc ?_|refine ze ?_|refine zd ?_|refine zC ?_|refine zD ?_|refine zE ?_|refine zF ?_|refine zG ?_|refine zH ?_|refine zI ?_|refine zJ ?_|refine zK ?_|refine zL ?_|refine zM ?_|refine zN ?_|refine zO ?_|refine zP ?_|refine zQ ?_|refine zR ?_|refine zS ?_|refine zU ?_|refine zV ?_|refine zW ?_|refine zt (fun hcd => ?_) (fun hcd => ?_)|refine zu (fun hcd => ?_) (fun hcd => ?_)|refine zX ?_|refine zY ?_|refine zv (fun hcd => ?_) (fun hcd => ?_)|refine zk ?_|refine zl ?_|refine zm ?_|refine zn ?_|refine zf ?_|refine zg ?_|refine zj ?_|refine zZ ?_|refine zh ?_|refine zi ?_|refine zo ?_|refine zp ?_|refine zq ?_|refine zr ?_|refine zs ?_)
  (refine r_call (R := ?_) rfl ?_ ?_; rotate_left 1; focus exact valid_any (fn : Int) fd _ ⟨by omega, by omega⟩)
  rintro v w8 ⟨rfl, hE8⟩
  have hE08 := hE07.trans hE8
  repeat' (first|refine za ?_|refine zA ?_|refine zB ?_|refine zb ?_|refine zc ?_|refine ze ?_|refine zd ?_|refine zC ?_|refine zD ?_|refine zE ?_|refine zF ?_|refine zG ?_|refine zH ?_|refine zI ?_|refine zJ ?_|refine zK ?_|refine zL ?_|refine zM ?_|refine zN ?_|refine zO ?_|refine zP ?_|refine zQ ?_|refine zR ?_|refine zS ?_|refine zU ?_|refine zV ?_|refine zW ?_|refine zt (fun hcd => ?_) (fun hcd => ?_)|refine zu (fun hcd => ?_) (fun hcd => ?_)|refine zX ?_|refine zY ?_|refine zv (fun hcd => ?_) (fun hcd => ?_)|refine zk ?_|refine zl ?_|refine zm ?_|refine zn ?_|refine zf ?_|refine zg ?_|refine zj ?_|refine zZ ?_|refine zh ?_|refine zi ?_|refine zo ?_|refine zp ?_|refine zq ?_|refine zr ?_|refine zs ?_)
  (refine r_call (R := ?_) rfl ?_ ?_; rotate_left 1; focus exact heads_any _ _ L H _ (hP.ext hE08) (hIH.ext hE8) (by omega))
  rintro v w9 ⟨hv, hE9⟩
  rw [decide_eq_true hO.1] at hv
  subst hv
  have hE09 := hE08.trans hE9
  have hE79 := hE8.trans hE9
  have hE69 := hE7.trans hE79
  have hrC := fun v (hv : v < n) => (hIC.ext hE69).rd (i := v) (by omega)
  have hcs := hIC.isSome (by omega)
  repeat' (first|refine za ?_|refine zA ?_|refine zB ?_|refine zb ?_|refine zc ?_|refine ze ?_|refine zd ?_|refine zC ?_|refine zD ?_|refine zE ?_|refine zF ?_|refine zG ?_|refine zH ?_|refine zI ?_|refine zJ ?_|refine zK ?_|refine zL ?_|refine zM ?_|refine zN ?_|refine zO ?_|refine zP ?_|refine zQ ?_|refine zR ?_|refine zS ?_|refine zU ?_|refine zV ?_|refine zW ?_|refine zt (fun hcd => ?_) (fun hcd => ?_)|refine zu (fun hcd => ?_) (fun hcd => ?_)|refine zX ?_|refine zY ?_|refine zv (fun hcd => ?_) (fun hcd => ?_)|refine zk ?_|refine zl ?_|refine zm ?_|refine zn ?_|refine zf ?_|refine zg ?_|refine zj ?_|refine zZ ?_|refine zh ?_|refine zi ?_|refine zo ?_|refine zp ?_|refine zq ?_|refine zr ?_|refine zs ?_)
  refine wc_loop2 [0, 7, 11, 13, 15] (fun (i : Nat) (t : Int) => [(18, .int .i64 t), (19, .int .i64 i)]) (fun i t wk => i ≤ n ∧ (0 ≤ t ∧ t ≤ k) ∧ (vt < i → t = k) ∧ wk = w9) (fun i _ => n - i) 0 0 rfl ⟨rfl, rfl, trivial⟩ ⟨by omega, by omega, fun c => by omega, rfl⟩ ?_
  rintro i t wk x ⟨hi, htb, htk, rfl⟩
  by_cases hin : i < n
  · have hr := hrC i hin
    have hci := hcle i hin
    have hvi : i = vt → C.getD i 0 = k := fun e => by rw [e]; exact hvte
    generalize C.getD i 0 = ci at *
    obtain ⟨t', ht'⟩ : ∃ t', (if ci > t then ci else t) = t' := ⟨_, rfl⟩
    repeat' (first|refine za ?_|refine zA ?_|refine zB ?_|refine zb ?_|refine zc ?_|refine ze ?_|refine zd ?_|refine zC ?_|refine zD ?_|refine zE ?_|refine zF ?_|refine zG ?_|refine zH ?_|refine zI ?_|refine zJ ?_|refine zK ?_|refine zL ?_|refine zM ?_|refine zN ?_|refine zO ?_|refine zP ?_|refine zQ ?_|refine zR ?_|refine zS ?_|refine zU ?_|refine zV ?_|refine zW ?_|refine zt (fun hcd => ?_) (fun hcd => ?_)|refine zu (fun hcd => ?_) (fun hcd => ?_)|refine zX ?_|refine zY ?_|refine zv (fun hcd => ?_) (fun hcd => ?_)|refine zk ?_|refine zl ?_|refine zm ?_|refine zn ?_|refine zf ?_|refine zg ?_|refine zj ?_|refine zZ ?_|refine zh ?_|refine zi ?_|refine zo ?_|refine zp ?_|refine zq ?_|refine zr ?_|refine zs ?_)
    refine r_max (c := t') rfl rfl ht' ?_
    repeat' (first|refine za ?_|refine zA ?_|refine zB ?_|refine zb ?_|refine zc ?_|refine ze ?_|refine zd ?_|refine zC ?_|refine zD ?_|refine zE ?_|refine zF ?_|refine zG ?_|refine zH ?_|refine zI ?_|refine zJ ?_|refine zK ?_|refine zL ?_|refine zM ?_|refine zN ?_|refine zO ?_|refine zP ?_|refine zQ ?_|refine zR ?_|refine zS ?_|refine zU ?_|refine zV ?_|refine zW ?_|refine zt (fun hcd => ?_) (fun hcd => ?_)|refine zu (fun hcd => ?_) (fun hcd => ?_)|refine zX ?_|refine zY ?_|refine zv (fun hcd => ?_) (fun hcd => ?_)|refine zk ?_|refine zl ?_|refine zm ?_|refine zn ?_|refine zf ?_|refine zg ?_|refine zj ?_|refine zZ ?_|refine zh ?_|refine zi ?_|refine zo ?_|refine zp ?_|refine zq ?_|refine zr ?_|refine zs ?_)
    refine ⟨i + 1, t', ⟨rfl, rfl, trivial⟩, ⟨by omega, ?_, fun c => ?_, rfl⟩, by omega⟩
    · rw [← ht']; split <;> omega
    · rw [← ht']
      by_cases e : i = vt
      · have := hvi e; split <;> omega
      · have := htk (by omega); split <;> omega
  · have ht : t = k := htk (by omega)
    subst ht
    have h7 := (h4.ext (hE47.trans hE79)).ext (Ext.drew wk)
    have hEd := Ext.drew wk
    have hb1 : 0 ≤ t * (fd : Int) ∧ t * (fd : Int) ≤ 1000 * 16 := ⟨Int.mul_nonneg (by omega) (by omega), Int.mul_le_mul (by omega) (by omega) (by omega) (by omega)⟩
    repeat' (first|refine za ?_|refine zA ?_|refine zB ?_|refine zb ?_|refine zc ?_|refine ze ?_|refine zd ?_|refine zC ?_|refine zD ?_|refine zE ?_|refine zF ?_|refine zG ?_|refine zH ?_|refine zI ?_|refine zJ ?_|refine zK ?_|refine zL ?_|refine zM ?_|refine zN ?_|refine zO ?_|refine zP ?_|refine zQ ?_|refine zR ?_|refine zS ?_|refine zU ?_|refine zV ?_|refine zW ?_|refine zt (fun hcd => ?_) (fun hcd => ?_)|refine zu (fun hcd => ?_) (fun hcd => ?_)|refine zX ?_|refine zY ?_|refine zv (fun hcd => ?_) (fun hcd => ?_)|refine zk ?_|refine zl ?_|refine zm ?_|refine zn ?_|refine zf ?_|refine zg ?_|refine zj ?_|refine zZ ?_|refine zh ?_|refine zi ?_|refine zo ?_|refine zp ?_|refine zq ?_|refine zr ?_|refine zs ?_)
    refine wc_heldB (fun w' => Ext wk.drew w') (.take 0 (.take 1 (.take 2 (.take 3 (.take 4 (.take 5 (.take 6 (.take 7 (.take 8 (.take 9 (.take 10 (.take 11 (.take 12 (.take 13 (.take 14 (.take 15 (.take 16 (.take 17 (.take 18 (.take 19 (.take 20 (.take 21 (.take 22 (.take 23 (.take 24 (.take 26 (.take 27 (.take 28 (.take 29 (.take 30 (.take 31 (.take 32 (.take 33 (.take 34 (.one 25 (.take 35 (.take 36 (.take 37 (.one 38 (.take 39 (.one 40 .done))))))))))))))))))))))))))))))))))))))))) (by kernel_rfl) (by kernel_rfl) (Ext.refl _) ?_
    repeat' (first | refine whB_take (v := .int _ _) rfl rfl (fun w' hw' => rv_move_v rfl) ?_ | refine whB_takeG (v := .int _ _) rfl rfl rfl rfl (fun w' hw' => rv_move_v rfl) ?_ | refine whB_take (v := .bool _) rfl rfl (fun w' hw' => rv_move_v rfl) ?_ | refine whB_takeG (v := .bool _) rfl rfl rfl rfl (fun w' hw' => rv_move_v rfl) ?_ | refine whB_take (v := .slice _ _ _) rfl rfl (fun w' hw' => rv_move_v rfl) ?_ | refine whB_takeG (v := .slice _ _ _) rfl rfl rfl rfl (fun w' hw' => rv_move_v rfl) ?_ | refine whB_take rfl rfl (fun w' hw' => rv_move) ?_ | refine whB_takeG rfl rfl rfl rfl (fun w' hw' => rv_move) ?_ | (refine whB_take rfl rfl (fun w' hw' => rv_of rfl (fun _ h => k_eql_t rfl rfl (by omega) h) fun _ _ h => val_of h) ?_) | (refine whB_takeG rfl rfl rfl rfl (fun w' hw' => rv_of rfl (fun _ h => k_eql_t rfl rfl (by omega) h) fun _ _ h => val_of h) ?_) | (refine whB_take rfl rfl (fun w' hw' => rv_pick_tb rfl rfl) ?_) | (refine whB_takeG rfl rfl rfl rfl (fun w' hw' => rv_pick_tb rfl rfl) ?_) | (refine whB_take rfl rfl (fun w' hw' => rv_pick_fb rfl rfl) ?_) | (refine whB_takeG rfl rfl rfl rfl (fun w' hw' => rv_pick_fb rfl rfl) ?_))
    refine whB_takeG rfl rfl rfl rfl (fun w' hw' => rv_faE (o' := 0) fo48_0 rfl rfl) ?_
    refine whB_takeG rfl rfl rfl rfl (fun w' hw' => rv_ld rfl rfl ((h7.ext hw').rd (v := .int .i64 (fn : Int)) rfl)) ?_
    refine whB_takeG rfl rfl rfl rfl (fun w' hw' => rv_mul rfl rfl ⟨by omega, by omega⟩) ?_
    repeat' (first | refine whB_take (v := .int _ _) rfl rfl (fun w' hw' => rv_move_v rfl) ?_ | refine whB_takeG (v := .int _ _) rfl rfl rfl rfl (fun w' hw' => rv_move_v rfl) ?_ | refine whB_take (v := .bool _) rfl rfl (fun w' hw' => rv_move_v rfl) ?_ | refine whB_takeG (v := .bool _) rfl rfl rfl rfl (fun w' hw' => rv_move_v rfl) ?_ | refine whB_take (v := .slice _ _ _) rfl rfl (fun w' hw' => rv_move_v rfl) ?_ | refine whB_takeG (v := .slice _ _ _) rfl rfl rfl rfl (fun w' hw' => rv_move_v rfl) ?_ | refine whB_take rfl rfl (fun w' hw' => rv_move) ?_ | refine whB_takeG rfl rfl rfl rfl (fun w' hw' => rv_move) ?_ | (refine whB_take rfl rfl (fun w' hw' => rv_of rfl (fun _ h => k_eql_t rfl rfl (by omega) h) fun _ _ h => val_of h) ?_) | (refine whB_takeG rfl rfl rfl rfl (fun w' hw' => rv_of rfl (fun _ h => k_eql_t rfl rfl (by omega) h) fun _ _ h => val_of h) ?_) | (refine whB_take rfl rfl (fun w' hw' => rv_pick_tb rfl rfl) ?_) | (refine whB_takeG rfl rfl rfl rfl (fun w' hw' => rv_pick_tb rfl rfl) ?_) | (refine whB_take rfl rfl (fun w' hw' => rv_pick_fb rfl rfl) ?_) | (refine whB_takeG rfl rfl rfl rfl (fun w' hw' => rv_pick_fb rfl rfl) ?_))
    refine whB_takeG rfl rfl rfl rfl (fun w' hw' => rv_faE (o' := 1) fo48_1 rfl rfl) ?_
    refine whB_takeG rfl rfl rfl rfl (fun w' hw' => rv_ld rfl rfl ((h7.ext hw').rd (v := .int .i64 (fd : Int)) rfl)) ?_
    refine whB_takeG rfl rfl rfl rfl (fun w' hw' => rv_mul rfl rfl ⟨by omega, by omega⟩) ?_
    refine whB_takeG rfl rfl rfl rfl (fun w' hw' => rv_of rfl (fun _ h => k_geq_t rfl rfl (by omega) h) fun _ _ h => val_of h) ?_
    repeat' (first | refine whB_take (v := .int _ _) rfl rfl (fun w' hw' => rv_move_v rfl) ?_ | refine whB_takeG (v := .int _ _) rfl rfl rfl rfl (fun w' hw' => rv_move_v rfl) ?_ | refine whB_take (v := .bool _) rfl rfl (fun w' hw' => rv_move_v rfl) ?_ | refine whB_takeG (v := .bool _) rfl rfl rfl rfl (fun w' hw' => rv_move_v rfl) ?_ | refine whB_take (v := .slice _ _ _) rfl rfl (fun w' hw' => rv_move_v rfl) ?_ | refine whB_takeG (v := .slice _ _ _) rfl rfl rfl rfl (fun w' hw' => rv_move_v rfl) ?_ | refine whB_take rfl rfl (fun w' hw' => rv_move) ?_ | refine whB_takeG rfl rfl rfl rfl (fun w' hw' => rv_move) ?_ | (refine whB_take rfl rfl (fun w' hw' => rv_of rfl (fun _ h => k_eql_t rfl rfl (by omega) h) fun _ _ h => val_of h) ?_) | (refine whB_takeG rfl rfl rfl rfl (fun w' hw' => rv_of rfl (fun _ h => k_eql_t rfl rfl (by omega) h) fun _ _ h => val_of h) ?_) | (refine whB_take rfl rfl (fun w' hw' => rv_pick_tb rfl rfl) ?_) | (refine whB_takeG rfl rfl rfl rfl (fun w' hw' => rv_pick_tb rfl rfl) ?_) | (refine whB_take rfl rfl (fun w' hw' => rv_pick_fb rfl rfl) ?_) | (refine whB_takeG rfl rfl rfl rfl (fun w' hw' => rv_pick_fb rfl rfl) ?_))
    refine whB_takeG rfl rfl rfl rfl (fun w' hw' => rv_faE (o' := 0) fo48_0 rfl rfl) ?_
    refine whB_takeG rfl rfl rfl rfl (fun w' hw' => rv_ld rfl rfl ((h7.ext hw').rd (v := .int .i64 (fn : Int)) rfl)) ?_
    repeat' (first | refine whB_take (v := .int _ _) rfl rfl (fun w' hw' => rv_move_v rfl) ?_ | refine whB_takeG (v := .int _ _) rfl rfl rfl rfl (fun w' hw' => rv_move_v rfl) ?_ | refine whB_take (v := .bool _) rfl rfl (fun w' hw' => rv_move_v rfl) ?_ | refine whB_takeG (v := .bool _) rfl rfl rfl rfl (fun w' hw' => rv_move_v rfl) ?_ | refine whB_take (v := .slice _ _ _) rfl rfl (fun w' hw' => rv_move_v rfl) ?_ | refine whB_takeG (v := .slice _ _ _) rfl rfl rfl rfl (fun w' hw' => rv_move_v rfl) ?_ | refine whB_take rfl rfl (fun w' hw' => rv_move) ?_ | refine whB_takeG rfl rfl rfl rfl (fun w' hw' => rv_move) ?_ | (refine whB_take rfl rfl (fun w' hw' => rv_of rfl (fun _ h => k_eql_t rfl rfl (by omega) h) fun _ _ h => val_of h) ?_) | (refine whB_takeG rfl rfl rfl rfl (fun w' hw' => rv_of rfl (fun _ h => k_eql_t rfl rfl (by omega) h) fun _ _ h => val_of h) ?_) | (refine whB_take rfl rfl (fun w' hw' => rv_pick_tb rfl rfl) ?_) | (refine whB_takeG rfl rfl rfl rfl (fun w' hw' => rv_pick_tb rfl rfl) ?_) | (refine whB_take rfl rfl (fun w' hw' => rv_pick_fb rfl rfl) ?_) | (refine whB_takeG rfl rfl rfl rfl (fun w' hw' => rv_pick_fb rfl rfl) ?_))
    refine whB_takeG rfl rfl rfl rfl (fun w' hw' => rv_faE (o' := 1) fo48_1 rfl rfl) ?_
    refine whB_takeG rfl rfl rfl rfl (fun w' hw' => rv_ld rfl rfl ((h7.ext hw').rd (v := .int .i64 (fd : Int)) rfl)) ?_
    refine whB_takeG rfl rfl rfl rfl (fun w' hw' => rv_mul rfl rfl ⟨by omega, by omega⟩) ?_
    refine whB_takeG rfl rfl rfl rfl (fun w' hw' => rv_of rfl (fun _ h => k_leq_t rfl rfl (by omega) h) fun _ _ h => val_of h) ?_
    repeat' (first | refine whB_take (v := .int _ _) rfl rfl (fun w' hw' => rv_move_v rfl) ?_ | refine whB_takeG (v := .int _ _) rfl rfl rfl rfl (fun w' hw' => rv_move_v rfl) ?_ | refine whB_take (v := .bool _) rfl rfl (fun w' hw' => rv_move_v rfl) ?_ | refine whB_takeG (v := .bool _) rfl rfl rfl rfl (fun w' hw' => rv_move_v rfl) ?_ | refine whB_take (v := .slice _ _ _) rfl rfl (fun w' hw' => rv_move_v rfl) ?_ | refine whB_takeG (v := .slice _ _ _) rfl rfl rfl rfl (fun w' hw' => rv_move_v rfl) ?_ | refine whB_take rfl rfl (fun w' hw' => rv_move) ?_ | refine whB_takeG rfl rfl rfl rfl (fun w' hw' => rv_move) ?_ | (refine whB_take rfl rfl (fun w' hw' => rv_of rfl (fun _ h => k_eql_t rfl rfl (by omega) h) fun _ _ h => val_of h) ?_) | (refine whB_takeG rfl rfl rfl rfl (fun w' hw' => rv_of rfl (fun _ h => k_eql_t rfl rfl (by omega) h) fun _ _ h => val_of h) ?_) | (refine whB_take rfl rfl (fun w' hw' => rv_pick_tb rfl rfl) ?_) | (refine whB_takeG rfl rfl rfl rfl (fun w' hw' => rv_pick_tb rfl rfl) ?_) | (refine whB_take rfl rfl (fun w' hw' => rv_pick_fb rfl rfl) ?_) | (refine whB_takeG rfl rfl rfl rfl (fun w' hw' => rv_pick_fb rfl rfl) ?_))
    refine whB_takeG rfl rfl rfl rfl (fun w' hw' => rv_faE (o' := 0) fo48_0 rfl rfl) ?_
    refine whB_takeG rfl rfl rfl rfl (fun w' hw' => rv_ld rfl rfl ((h7.ext hw').rd (v := .int .i64 (fn : Int)) rfl)) ?_
    refine whB_takeG rfl rfl rfl rfl (fun w' hw' => rv_faE (o' := 1) fo48_1 rfl rfl) ?_
    refine whB_takeG rfl rfl rfl rfl (fun w' hw' => rv_ld rfl rfl ((h7.ext hw').rd (v := .int .i64 (fd : Int)) rfl)) ?_
    refine whB_takeG rfl rfl rfl rfl (fun w' hw' => rv_add rfl rfl ⟨by omega, by omega⟩) ?_
    refine whB_takeG rfl rfl rfl rfl (fun w' hw' => rv_sub rfl rfl ⟨by omega, by omega⟩) ?_
    refine whB_takeG rfl rfl rfl rfl (fun w' hw' => rv_faE (o' := 1) fo48_1 rfl rfl) ?_
    refine whB_takeG rfl rfl rfl rfl (fun w' hw' => rv_ld rfl rfl ((h7.ext hw').rd (v := .int .i64 (fd : Int)) rfl)) ?_
    refine whB_takeG rfl rfl rfl rfl (fun w' hw' => rv_of rfl (fun _ h => r_quo_in rfl rfl ⟨by omega, by omega⟩ (by omega) h) fun _ _ h => val_of h) ?_
    refine whB_oneG rfl rfl rfl rfl ?_
    (refine r_call (R := ?_) rfl ?_ ?_; rotate_left 1; focus exact rheight_any n _ H _ (hIH.ext (hE79.trans hEd)) (by omega) (by omega) hrng)
    rintro v w10 ⟨⟨s, rfl, hs⟩, hE10⟩
    have hceil := hmin s hs
    refine ⟨hE10, ?_⟩
    repeat' (first | refine whB_take (v := .int _ _) rfl rfl (fun w' hw' => rv_move_v rfl) ?_ | refine whB_takeG (v := .int _ _) rfl rfl rfl rfl (fun w' hw' => rv_move_v rfl) ?_ | refine whB_take (v := .bool _) rfl rfl (fun w' hw' => rv_move_v rfl) ?_ | refine whB_takeG (v := .bool _) rfl rfl rfl rfl (fun w' hw' => rv_move_v rfl) ?_ | refine whB_take (v := .slice _ _ _) rfl rfl (fun w' hw' => rv_move_v rfl) ?_ | refine whB_takeG (v := .slice _ _ _) rfl rfl rfl rfl (fun w' hw' => rv_move_v rfl) ?_ | refine whB_take rfl rfl (fun w' hw' => rv_move) ?_ | refine whB_takeG rfl rfl rfl rfl (fun w' hw' => rv_move) ?_ | (refine whB_take rfl rfl (fun w' hw' => rv_of rfl (fun _ h => k_eql_t rfl rfl (by omega) h) fun _ _ h => val_of h) ?_) | (refine whB_takeG rfl rfl rfl rfl (fun w' hw' => rv_of rfl (fun _ h => k_eql_t rfl rfl (by omega) h) fun _ _ h => val_of h) ?_) | (refine whB_take rfl rfl (fun w' hw' => rv_pick_tb rfl rfl) ?_) | (refine whB_takeG rfl rfl rfl rfl (fun w' hw' => rv_pick_tb rfl rfl) ?_) | (refine whB_take rfl rfl (fun w' hw' => rv_pick_fb rfl rfl) ?_) | (refine whB_takeG rfl rfl rfl rfl (fun w' hw' => rv_pick_fb rfl rfl) ?_))
    refine whB_oneG rfl rfl rfl rfl ?_
    (refine r_call (R := ?_) rfl ?_ ?_; rotate_left 1; focus exact awake_any _)
    rintro v w11 ⟨rfl, hE11⟩
    have hS := hE10.trans hE11
    refine ⟨hS, ?_⟩
    repeat' (first | refine whB_take (v := .int _ _) rfl rfl (fun w' hw' => rv_move_v rfl) ?_ | refine whB_takeG (v := .int _ _) rfl rfl rfl rfl (fun w' hw' => rv_move_v rfl) ?_ | refine whB_take (v := .bool _) rfl rfl (fun w' hw' => rv_move_v rfl) ?_ | refine whB_takeG (v := .bool _) rfl rfl rfl rfl (fun w' hw' => rv_move_v rfl) ?_ | refine whB_take (v := .slice _ _ _) rfl rfl (fun w' hw' => rv_move_v rfl) ?_ | refine whB_takeG (v := .slice _ _ _) rfl rfl rfl rfl (fun w' hw' => rv_move_v rfl) ?_ | refine whB_take rfl rfl (fun w' hw' => rv_move) ?_ | refine whB_takeG rfl rfl rfl rfl (fun w' hw' => rv_move) ?_ | (refine whB_take rfl rfl (fun w' hw' => rv_of rfl (fun _ h => k_eql_t rfl rfl (by omega) h) fun _ _ h => val_of h) ?_) | (refine whB_takeG rfl rfl rfl rfl (fun w' hw' => rv_of rfl (fun _ h => k_eql_t rfl rfl (by omega) h) fun _ _ h => val_of h) ?_) | (refine whB_take rfl rfl (fun w' hw' => rv_pick_tb rfl rfl) ?_) | (refine whB_takeG rfl rfl rfl rfl (fun w' hw' => rv_pick_tb rfl rfl) ?_) | (refine whB_take rfl rfl (fun w' hw' => rv_pick_fb rfl rfl) ?_) | (refine whB_takeG rfl rfl rfl rfl (fun w' hw' => rv_pick_fb rfl rfl) ?_))
    refine whB_one rfl rfl ?_
    refine r_assign_v (v := .bool true) rfl ?_
    refine ⟨hS, whB_done ?_⟩
    repeat' (first|refine za ?_|refine zA ?_|refine zB ?_|refine zb ?_|refine zc ?_|refine ze ?_|refine zd ?_|refine zC ?_|refine zD ?_|refine zE ?_|refine zF ?_|refine zG ?_|refine zH ?_|refine zI ?_|refine zJ ?_|refine zK ?_|refine zL ?_|refine zM ?_|refine zN ?_|refine zO ?_|refine zP ?_|refine zQ ?_|refine zR ?_|refine zS ?_|refine zU ?_|refine zV ?_|refine zW ?_|refine zt (fun hcd => ?_) (fun hcd => ?_)|refine zu (fun hcd => ?_) (fun hcd => ?_)|refine zX ?_|refine zY ?_|refine zv (fun hcd => ?_) (fun hcd => ?_)|refine zk ?_|refine zl ?_|refine zm ?_|refine zn ?_|refine zf ?_|refine zg ?_|refine zj ?_|refine zZ ?_|refine zh ?_|refine zi ?_|refine zo ?_|refine zp ?_|refine zq ?_|refine zr ?_|refine zs ?_)
    refine post1 (v := .bool true) rfl rfl ?_
    exact ⟨rfl, ((hEa.trans hE09).trans hEd).trans hS⟩
end Go.Proofs.Ytibegggcinonkaa
