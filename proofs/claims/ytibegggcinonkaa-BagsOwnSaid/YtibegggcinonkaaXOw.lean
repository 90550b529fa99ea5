/- The law BagsOwn, walked: it answers true for every input. -/
import Derived.Test.YtibegggcinonkaaTm
import Derived.Test.YtibegggcinonkaaOr
import Derived.Test.YtibegggcinonkaaOwB
import Derived.Test.YtibegggcinonkaaR6
import Derived.Test.YtibegggcinonkaaR8
import Derived.Test.YtibegggcinonkaaAw
namespace Go.Proofs.Ytibegggcinonkaa
open Gv
theorem el63 : elemI Try.prog 63 = some (23, .slice none 0 0, 1, 24) := by kernel_rfl
theorem ag42w : aggT Try.prog 42 2 = true := by kernel_rfl
theorem blt42 (a b : Int) : Try.prog.built 42 [(0, .int .i64 a), (1, .int .i64 b)] = some #[.int .i64 a, .int .i64 b] := by kernel_rfl
set_option maxRecDepth 20000 in
set_option maxHeartbeats 8000000 in
theorem own_true (n0 : Int) (v1 : Value) (L0 : List (Int × Int)) (w : World) (h1 : Pairs2 w v1 L0) :
    Calls Try.prog 11 #[.int .i64 n0, v1] w (Ret fun v w' => v = .bool true ∧ Ext w w') := by
  obtain ⟨q1, c1, rfl, hq1⟩ := h1.slice
  have hmd := mod_bnd n0 (n := 10) (by decide)
  obtain ⟨n, hn'⟩ : ∃ n : Nat, 1 + IntKind.u64.wrap n0 % 10 = n := ⟨(1 + IntKind.u64.wrap n0 % 10).toNat, by omega⟩
  obtain ⟨m0, hm0⟩ : ∃ m0, IntKind.u64.wrap n0 % 10 = m0 := ⟨_, rfl⟩
  have hmod := fun w => mod_is n0 10 m0 w (by decide) hm0
  rw [hm0] at hmd hn'
  have hn : 1 ≤ n ∧ n ≤ 10 := by omega
  clear hm0
  refine calls_of_wc (args := [.int .i64 n0, .slice q1 L0.length c1]) Try.func11 rfl ?_ ?_; kernel_rfl
  repeat' (first|refine za ?_|refine zA ?_|refine zB ?_|refine zb ?_|refine zc ?_|refine ze ?_|refine zd ?_|refine zC ?_|refine zD ?_|refine zE ?_|refine zF ?_|refine zG ?_|refine zH ?_|refine zI ?_|refine zJ ?_|refine zK ?_|refine zL ?_|refine zM ?_|refine zN ?_|refine zO ?_|refine zP ?_|refine zQ ?_|refine zR ?_|refine zS ?_|refine zU ?_|refine zV ?_|refine zW ?_|refine zt (fun hcd => ?_) (fun hcd => ?_)|refine zu (fun hcd => ?_) (fun hcd => ?_)|refine zX ?_|refine zY ?_|refine zv (fun hcd => ?_) (fun hcd => ?_)|refine zk ?_|refine zl ?_|refine zm ?_|refine zn ?_|refine zf ?_|refine zg ?_|refine zj ?_|refine zZ ?_|refine zh ?_|refine zi ?_|refine zo ?_|refine zp ?_|refine zq ?_|refine zr ?_|refine zs ?_)
  (refine r_call_q (v := ?_) rfl ?_ ?_; rotate_left 1; focus exact hmod _)
  repeat' (first|refine za ?_|refine zA ?_|refine zB ?_|refine zb ?_|refine zc ?_|refine ze ?_|refine zd ?_|refine zC ?_|refine zD ?_|refine zE ?_|refine zF ?_|refine zG ?_|refine zH ?_|refine zI ?_|refine zJ ?_|refine zK ?_|refine zL ?_|refine zM ?_|refine zN ?_|refine zO ?_|refine zP ?_|refine zQ ?_|refine zR ?_|refine zS ?_|refine zU ?_|refine zV ?_|refine zW ?_|refine zt (fun hcd => ?_) (fun hcd => ?_)|refine zu (fun hcd => ?_) (fun hcd => ?_)|refine zX ?_|refine zY ?_|refine zv (fun hcd => ?_) (fun hcd => ?_)|refine zk ?_|refine zl ?_|refine zm ?_|refine zn ?_|refine zf ?_|refine zg ?_|refine zj ?_|refine zZ ?_|refine zh ?_|refine zi ?_|refine zo ?_|refine zp ?_|refine zq ?_|refine zr ?_|refine zs ?_)
  rw [hn']
  clear hmd hn' hmod
  (refine r_call (R := ?_) rfl ?_ ?_; rotate_left 1; focus exact tame_any n _ L0 _ h1 (by omega))
  rintro ve wa ⟨L, hPa, hG, hEa⟩
  obtain ⟨qe, ce, rfl, hqe⟩ := (OwnP.pairs hPa).slice
  have hLl := hG.len
  have hGe := hG.ed
  have hGd : GoodE n L := fun k hk => hG.2.2 k hk
  clear h1 hq1
  repeat' (first|refine za ?_|refine zA ?_|refine zB ?_|refine zb ?_|refine zc ?_|refine ze ?_|refine zd ?_|refine zC ?_|refine zD ?_|refine zE ?_|refine zF ?_|refine zG ?_|refine zH ?_|refine zI ?_|refine zJ ?_|refine zK ?_|refine zL ?_|refine zM ?_|refine zN ?_|refine zO ?_|refine zP ?_|refine zQ ?_|refine zR ?_|refine zS ?_|refine zU ?_|refine zV ?_|refine zW ?_|refine zt (fun hcd => ?_) (fun hcd => ?_)|refine zu (fun hcd => ?_) (fun hcd => ?_)|refine zX ?_|refine zY ?_|refine zv (fun hcd => ?_) (fun hcd => ?_)|refine zk ?_|refine zl ?_|refine zm ?_|refine zn ?_|refine zf ?_|refine zg ?_|refine zj ?_|refine zZ ?_|refine zh ?_|refine zi ?_|refine zo ?_|refine zp ?_|refine zq ?_|refine zr ?_|refine zs ?_)
  (refine r_call (R := ?_) rfl ?_ ?_; rotate_left 1; focus exact edges_any _ L _ (OwnP.pairs hPa))
  rintro vc w2 ⟨hPc, hE2⟩
  rw [List.take_of_length_le (by omega)] at hPc
  obtain ⟨qk, ck, rfl, hqk⟩ := (OwnP.pairs hPc).slice
  have hP := (OwnP.pairs hPa).ext hE2
  have hK := OwnP.pairs hPc
  have lo : ∀ g, (Value.slice qe L.length ce).ownBlock = some g → g < w2.heap.size := fun g hg => by have := (World.ownsRow.lt hPa g hg).2; have := hE2.size; omega
  have lc : ∀ g, (Value.slice qk L.length ck).ownBlock = some g → g < w2.heap.size := fun g hg => (World.ownsRow.lt hPc g hg).2
  have hEa2 := hEa.trans hE2
  clear hPa hPc
  repeat' (first|refine za ?_|refine zA ?_|refine zB ?_|refine zb ?_|refine zc ?_|refine ze ?_|refine zd ?_|refine zC ?_|refine zD ?_|refine zE ?_|refine zF ?_|refine zG ?_|refine zH ?_|refine zI ?_|refine zJ ?_|refine zK ?_|refine zL ?_|refine zM ?_|refine zN ?_|refine zO ?_|refine zP ?_|refine zQ ?_|refine zR ?_|refine zS ?_|refine zU ?_|refine zV ?_|refine zW ?_|refine zt (fun hcd => ?_) (fun hcd => ?_)|refine zu (fun hcd => ?_) (fun hcd => ?_)|refine zX ?_|refine zY ?_|refine zv (fun hcd => ?_) (fun hcd => ?_)|refine zk ?_|refine zl ?_|refine zm ?_|refine zn ?_|refine zf ?_|refine zg ?_|refine zj ?_|refine zZ ?_|refine zh ?_|refine zi ?_|refine zo ?_|refine zp ?_|refine zq ?_|refine zr ?_|refine zs ?_)
  (refine r_call (R := ?_) rfl ?_ ?_; rotate_left 1; focus exact densest_any n _ L _ hP (by omega) lo)
  rintro v w3 ⟨hR, hE3⟩
  unfold DensR at hR
  rw [if_pos hG] at hR
  obtain ⟨S, Sh, vs, vsh, rfl, hS, hSh, hdis, hD, hok⟩ := hR
  obtain ⟨qs, cs, rfl, _⟩ := (OwnI.ints hS).slice
  obtain ⟨qp, cp, rfl, _⟩ := (OwnP.pairs hSh).slice
  have hSl := set_len hD.asc.nodup hD.rng hG.1.2
  have hShl : Sh.length = L.length := hok.len
  clear hok
  repeat' (first|refine za ?_|refine zA ?_|refine zB ?_|refine zb ?_|refine zc ?_|refine ze ?_|refine zd ?_|refine zC ?_|refine zD ?_|refine zE ?_|refine zF ?_|refine zG ?_|refine zH ?_|refine zI ?_|refine zJ ?_|refine zK ?_|refine zL ?_|refine zM ?_|refine zN ?_|refine zO ?_|refine zP ?_|refine zQ ?_|refine zR ?_|refine zS ?_|refine zU ?_|refine zV ?_|refine zW ?_|refine zt (fun hcd => ?_) (fun hcd => ?_)|refine zu (fun hcd => ?_) (fun hcd => ?_)|refine zX ?_|refine zY ?_|refine zv (fun hcd => ?_) (fun hcd => ?_)|refine zk ?_|refine zl ?_|refine zm ?_|refine zn ?_|refine zf ?_|refine zg ?_|refine zj ?_|refine zZ ?_|refine zh ?_|refine zi ?_|refine zo ?_|refine zp ?_|refine zq ?_|refine zr ?_|refine zs ?_)
  refine r_allocN z48 fun w4 hb4 hE4 hs4 => ?_
  obtain ⟨b8, eb8⟩ : ∃ b, b = w3.heap.size := ⟨_, rfl⟩
  rw [← eb8] at hb4 ⊢
  repeat' (first|refine za ?_|refine zA ?_|refine zB ?_|refine zb ?_|refine zc ?_|refine ze ?_|refine zd ?_|refine zC ?_|refine zD ?_|refine zE ?_|refine zF ?_|refine zG ?_|refine zH ?_|refine zI ?_|refine zJ ?_|refine zK ?_|refine zL ?_|refine zM ?_|refine zN ?_|refine zO ?_|refine zP ?_|refine zQ ?_|refine zR ?_|refine zS ?_|refine zU ?_|refine zV ?_|refine zW ?_|refine zt (fun hcd => ?_) (fun hcd => ?_)|refine zu (fun hcd => ?_) (fun hcd => ?_)|refine zX ?_|refine zY ?_|refine zv (fun hcd => ?_) (fun hcd => ?_)|refine zk ?_|refine zl ?_|refine zm ?_|refine zn ?_|refine zf ?_|refine zg ?_|refine zj ?_|refine zZ ?_|refine zh ?_|refine zi ?_|refine zo ?_|refine zp ?_|refine zq ?_|refine zr ?_|refine zs ?_)
  refine r_stN (ws := [.int .i64 (dnum L S : Int), .int .i64 (dden L S : Int)]) ag48 (by decide) hb4 (by rw [ints_length]; simp) rfl rfl rfl (by intro q hq; simp at hq; rcases hq with rfl | rfl <;> rfl) fun w5 h5 hC5 hs5 => ?_
  have hE35 : Ext w3 w5 := Ch.trans' hE4 hC5 fun k hk e => by omega
  have hE25 := hE3.trans hE35
  clear h5 hC5 hb4
  repeat' (first|refine za ?_|refine zA ?_|refine zB ?_|refine zb ?_|refine zc ?_|refine ze ?_|refine zd ?_|refine zC ?_|refine zD ?_|refine zE ?_|refine zF ?_|refine zG ?_|refine zH ?_|refine zI ?_|refine zJ ?_|refine zK ?_|refine zL ?_|refine zM ?_|refine zN ?_|refine zO ?_|refine zP ?_|refine zQ ?_|refine zR ?_|refine zS ?_|refine zU ?_|refine zV ?_|refine zW ?_|refine zt (fun hcd => ?_) (fun hcd => ?_)|refine zu (fun hcd => ?_) (fun hcd => ?_)|refine zX ?_|refine zY ?_|refine zv (fun hcd => ?_) (fun hcd => ?_)|refine zk ?_|refine zl ?_|refine zm ?_|refine zn ?_|refine zf ?_|refine zg ?_|refine zj ?_|refine zZ ?_|refine zh ?_|refine zi ?_|refine zo ?_|refine zp ?_|refine zq ?_|refine zr ?_|refine zs ?_)
  (refine r_call (R := ?_) rfl ?_ ?_; rotate_left 1; focus exact orient_any n _ L _ (hP.ext hE25) (by omega) (fun g hg => by have := lo g hg; have := hE25.size; omega))
  rintro v w6 ⟨hR, hE6⟩
  unfold OriR at hR
  rw [if_pos hG] at hR
  obtain ⟨H, pr, vh, vp, rfl, hH, hp, hdis2, hO⟩ := hR
  obtain ⟨qh, ch, rfl, _⟩ := (OwnI.ints hH).slice
  obtain ⟨qr, cr, rfl, _⟩ := (OwnI.ints hp).slice
  have hHl : H.length = L.length := hO.1.1
  have hprl : pr.length ≤ 16 := by
    obtain ⟨_, g, _, hp⟩ := hO
    rcases hp with ⟨_, rfl⟩ | ⟨_, ha, _, hrr, _⟩
    · simp
    · exact set_len ha.nodup hrr (by omega)
  have hE26 := hE25.trans hE6
  clear hO
  repeat' (first|refine za ?_|refine zA ?_|refine zB ?_|refine zb ?_|refine zc ?_|refine ze ?_|refine zd ?_|refine zC ?_|refine zD ?_|refine zE ?_|refine zF ?_|refine zG ?_|refine zH ?_|refine zI ?_|refine zJ ?_|refine zK ?_|refine zL ?_|refine zM ?_|refine zN ?_|refine zO ?_|refine zP ?_|refine zQ ?_|refine zR ?_|refine zS ?_|refine zU ?_|refine zV ?_|refine zW ?_|refine zt (fun hcd => ?_) (fun hcd => ?_)|refine zu (fun hcd => ?_) (fun hcd => ?_)|refine zX ?_|refine zY ?_|refine zv (fun hcd => ?_) (fun hcd => ?_)|refine zk ?_|refine zl ?_|refine zm ?_|refine zn ?_|refine zf ?_|refine zg ?_|refine zj ?_|refine zZ ?_|refine zh ?_|refine zi ?_|refine zo ?_|refine zp ?_|refine zq ?_|refine zr ?_|refine zs ?_)
  (refine r_call (R := ?_) rfl ?_ ?_; rotate_left 1; focus exact cores_any (n : Int) _ L _ (hP.ext hE26) (by omega) (fun g hg => by have := lo g hg; have := hE26.size; omega))
  rintro v w7 ⟨hR, hE7⟩
  unfold CoresR at hR
  rw [if_pos hG] at hR
  obtain ⟨vc, rfl, hC⟩ := hR
  simp only [Int.toNat_natCast] at hC ⊢
  have hcl := peC_len (L := L) (n := n) n
  obtain ⟨qc, cc, rfl, _⟩ := (OwnI.ints hC).slice
  have hE27 := hE26.trans hE7
  generalize hCC : peC L n n = C at *
  repeat' (first|refine za ?_|refine zA ?_|refine zB ?_|refine zb ?_|refine zc ?_|refine ze ?_|refine zd ?_|refine zC ?_|refine zD ?_|refine zE ?_|refine zF ?_|refine zG ?_|refine zH ?_|refine zI ?_|refine zJ ?_|refine zK ?_|refine zL ?_|refine zM ?_|refine zN ?_|refine zO ?_|refine zP ?_|refine zQ ?_|refine zR ?_|refine zS ?_|refine zU ?_|refine zV ?_|refine zW ?_|refine zt (fun hcd => ?_) (fun hcd => ?_)|refine zu (fun hcd => ?_) (fun hcd => ?_)|refine zX ?_|refine zY ?_|refine zv (fun hcd => ?_) (fun hcd => ?_)|refine zk ?_|refine zl ?_|refine zm ?_|refine zn ?_|refine zf ?_|refine zg ?_|refine zj ?_|refine zZ ?_|refine zh ?_|refine zi ?_|refine zo ?_|refine zp ?_|refine zq ?_|refine zr ?_|refine zs ?_)
  refine r_buildS4 el63 rfl rfl rfl rfl rfl rfl rfl rfl fun w8 h8 hE8 hs8 => ?_
  have b1 := fun g hg => World.ownsRow.lt hS g hg
  have b2 := fun g hg => World.ownsRow.lt hH g hg
  have b3 := fun g hg => World.ownsRow.lt hp g hg
  have b4 := fun g hg => World.ownsRow.lt hC g hg
  have bp := fun g hg => World.ownsRow.lt hSh g hg
  have s3 := hE3.size
  have s5 := hE35.size
  have s6 := hE6.size
  have s7 := hE7.size
  have hE28 := hE27.trans hE8
  have hT : OwnB w8 (fun g => w2.heap.size ≤ g ∧ (Value.slice qp Sh.length cp).ownBlock ≠ some g) 23 3 (.slice (some ⟨w7.heap.size, 0, none⟩) 4 4) [S, H, pr, C] := by
    have lt4 : ∀ {i : Nat} {u : Value}, ([.slice qs S.length cs, .slice qh H.length ch, .slice qr pr.length cr, .slice qc C.length cc] : List Value)[i]? = some u → (i = 0 ∧ u = .slice qs S.length cs) ∨ (i = 1 ∧ u = .slice qh H.length ch) ∨ (i = 2 ∧ u = .slice qr pr.length cr) ∨ (i = 3 ∧ u = .slice qc C.length cc) := fun {i u} h => by
      match i, h with
      | 0, h => simp at h; exact .inl ⟨rfl, h.symm⟩
      | 1, h => simp at h; exact .inr (.inl ⟨rfl, h.symm⟩)
      | 2, h => simp at h; exact .inr (.inr (.inl ⟨rfl, h.symm⟩))
      | 3, h => simp at h; exact .inr (.inr (.inr ⟨rfl, h.symm⟩))
      | i + 4, h => simp at h
    have e78 := hE8
    have e68 := hE7.trans e78
    have e58 := hE6.trans e68
    have e38 := hE35.trans e58
    refine ⟨_, h8.mono (by omega), rfl, fun i u hu => ?_, fun i j u u' g hu hu' hg hg' => ?_, fun i u g hu hg => ?_, fun g hg => ?_⟩
    · rcases lt4 hu with ⟨rfl, rfl⟩ | ⟨rfl, rfl⟩ | ⟨rfl, rfl⟩ | ⟨rfl, rfl⟩
      · exact ownsRow_mono (ownsRow_ext hS e38) (Nat.zero_le _)
      · exact ownsRow_mono (ownsRow_ext hH e68) (Nat.zero_le _)
      · exact ownsRow_mono (ownsRow_ext hp e68) (Nat.zero_le _)
      · exact ownsRow_mono (ownsRow_ext hC e78) (Nat.zero_le _)
    · rcases lt4 hu with ⟨rfl, rfl⟩ | ⟨rfl, rfl⟩ | ⟨rfl, rfl⟩ | ⟨rfl, rfl⟩ <;> rcases lt4 hu' with ⟨rfl, rfl⟩ | ⟨rfl, rfl⟩ | ⟨rfl, rfl⟩ | ⟨rfl, rfl⟩ <;> first
        | rfl
        | (exfalso
           first
           | exact hdis2 g hg hg'
           | exact hdis2 g hg' hg
           | (have k1 := b1 g hg; have k2 := b2 g hg'; omega)
           | (have k1 := b1 g hg; have k2 := b3 g hg'; omega)
           | (have k1 := b1 g hg; have k2 := b4 g hg'; omega)
           | (have k1 := b2 g hg; have k2 := b1 g hg'; omega)
           | (have k1 := b2 g hg; have k2 := b4 g hg'; omega)
           | (have k1 := b3 g hg; have k2 := b1 g hg'; omega)
           | (have k1 := b3 g hg; have k2 := b4 g hg'; omega)
           | (have k1 := b4 g hg; have k2 := b1 g hg'; omega)
           | (have k1 := b4 g hg; have k2 := b2 g hg'; omega)
           | (have k1 := b4 g hg; have k2 := b3 g hg'; omega))
    · have hne : (w2.heap.size ≤ g ∧ g < w7.heap.size) ∧ (Value.slice qp Sh.length cp).ownBlock ≠ some g := by
        rcases lt4 hu with ⟨rfl, rfl⟩ | ⟨rfl, rfl⟩ | ⟨rfl, rfl⟩ | ⟨rfl, rfl⟩
        · have := b1 g hg; exact ⟨by omega, fun e => hdis g hg e⟩
        · have := b2 g hg; exact ⟨by omega, fun e => by have := bp g e; omega⟩
        · have := b3 g hg; exact ⟨by omega, fun e => by have := bp g e; omega⟩
        · have := b4 g hg; exact ⟨by omega, fun e => by have := bp g e; omega⟩
      refine ⟨⟨hne.1.1, hne.2⟩, fun e => ?_⟩
      have e2 : w7.heap.size = g := by simpa [Value.ownBlock] using e
      omega
    · have e : w7.heap.size = g := by simpa [Value.ownBlock] using hg
      exact ⟨by omega, fun e' => by have := bp g e'; omega⟩
  have hp8 := ownsRow_ext hSh (((hE35.trans hE6).trans hE7).trans hE8)
  obtain ⟨T0, hT0⟩ : ∃ T0 : List (List Int), T0 = [S, H, pr, C] := ⟨_, rfl⟩
  have hT0l : T0.length = 4 := by rw [hT0]; rfl
  have hT0b : ∀ j, j < 4 → (T0.getD j []).length ≤ 1000 := fun j hj => by
    rw [hT0]
    match j, hj with
    | 0, _ => show S.length ≤ 1000; omega
    | 1, _ => show H.length ≤ 1000; omega
    | 2, _ => show pr.length ≤ 1000; omega
    | 3, _ => show C.length ≤ 1000; omega
  rw [← hT0] at hT
  have hps : (some (⟨w7.heap.size, 0, none⟩ : Addr)).isSome = true := rfl
  have hpb : ∀ g, (Value.slice qp Sh.length cp).ownBlock = some g → w2.heap.size ≤ g := fun g hg => (bp g hg).1
  clear b1 b2 b3 b4 bp hS hH hp hC hT0 h8 hdis hdis2 hSh
  have hrow := @OwnB.row w8
  clear hrow
  repeat' (first|refine za ?_|refine zA ?_|refine zB ?_|refine zb ?_|refine zc ?_|refine ze ?_|refine zd ?_|refine zC ?_|refine zD ?_|refine zE ?_|refine zF ?_|refine zG ?_|refine zH ?_|refine zI ?_|refine zJ ?_|refine zK ?_|refine zL ?_|refine zM ?_|refine zN ?_|refine zO ?_|refine zP ?_|refine zQ ?_|refine zR ?_|refine zS ?_|refine zU ?_|refine zV ?_|refine zW ?_|refine zt (fun hcd => ?_) (fun hcd => ?_)|refine zu (fun hcd => ?_) (fun hcd => ?_)|refine zX ?_|refine zY ?_|refine zv (fun hcd => ?_) (fun hcd => ?_)|refine zk ?_|refine zl ?_|refine zm ?_|refine zn ?_|refine zf ?_|refine zg ?_|refine zj ?_|refine zZ ?_|refine zh ?_|refine zi ?_|refine zo ?_|refine zp ?_|refine zq ?_|refine zr ?_|refine zs ?_)
  refine wc_loop2 [0, 5, 6, 9, 10, 13, 15, 16] (fun (i : Nat) (_ : List (List Int)) => [(17, .int .i64 i)]) (fun i T' wk => i ≤ 4 ∧ T'.length = 4 ∧ (∀ j, (T'.getD j []).length = (T0.getD j []).length) ∧ OwnB wk (fun g => w2.heap.size ≤ g ∧ (Value.slice qp Sh.length cp).ownBlock ≠ some g) 23 3 (.slice (some ⟨w7.heap.size, 0, none⟩) 4 4) T' ∧ Ch (fun g => w2.heap.size ≤ g ∧ (Value.slice qp Sh.length cp).ownBlock ≠ some g) w8 wk) (fun i _ => 4 - i) 0 T0 rfl ⟨rfl, trivial⟩ ⟨by omega, hT0l, fun j => rfl, hT, Ch.refl _ _⟩ ?_
  rintro i T' wk x ⟨hi4, hTl', hTlen, hOT, hC⟩
  by_cases hi3 : i < 4
  · repeat' (first|refine za ?_|refine zA ?_|refine zB ?_|refine zb ?_|refine zc ?_|refine ze ?_|refine zd ?_|refine zC ?_|refine zD ?_|refine zE ?_|refine zF ?_|refine zG ?_|refine zH ?_|refine zI ?_|refine zJ ?_|refine zK ?_|refine zL ?_|refine zM ?_|refine zN ?_|refine zO ?_|refine zP ?_|refine zQ ?_|refine zR ?_|refine zS ?_|refine zU ?_|refine zV ?_|refine zW ?_|refine zt (fun hcd => ?_) (fun hcd => ?_)|refine zu (fun hcd => ?_) (fun hcd => ?_)|refine zX ?_|refine zY ?_|refine zv (fun hcd => ?_) (fun hcd => ?_)|refine zk ?_|refine zl ?_|refine zm ?_|refine zn ?_|refine zf ?_|refine zg ?_|refine zj ?_|refine zZ ?_|refine zh ?_|refine zi ?_|refine zo ?_|refine zp ?_|refine zq ?_|refine zr ?_|refine zs ?_)
    refine wc_loop2 [0, 5, 6, 9, 10, 13, 15, 16, 17] (fun (k : Nat) (_ : List (List Int)) => [(18, .int .i64 k)]) (fun k T' wk => k ≤ (T0.getD i []).length ∧ T'.length = 4 ∧ (∀ j, (T'.getD j []).length = (T0.getD j []).length) ∧ OwnB wk (fun g => w2.heap.size ≤ g ∧ (Value.slice qp Sh.length cp).ownBlock ≠ some g) 23 3 (.slice (some ⟨w7.heap.size, 0, none⟩) 4 4) T' ∧ Ch (fun g => w2.heap.size ≤ g ∧ (Value.slice qp Sh.length cp).ownBlock ≠ some g) w8 wk) (fun k _ => (T0.getD i []).length - k) 0 T' rfl ⟨rfl, trivial⟩ ⟨by omega, hTl', hTlen, hOT, hC⟩ ?_
    rintro k T2 wk2 x2 ⟨hk, hTl2, hTlen2, hOT2, hC2⟩
    obtain ⟨qr', mr, hrd, hOr, hbr, hset⟩ := hOT2.row (i := i) (by omega)
    have hli := hTlen2 i
    have hb := hT0b i hi3
    by_cases hkl : k < (T0.getD i []).length
    · have hpr := (OwnI.ints hOr).isSome (by omega)
      repeat' (first|refine za ?_|refine zA ?_|refine zB ?_|refine zb ?_|refine zc ?_|refine ze ?_|refine zd ?_|refine zC ?_|refine zD ?_|refine zE ?_|refine zF ?_|refine zG ?_|refine zH ?_|refine zI ?_|refine zJ ?_|refine zK ?_|refine zL ?_|refine zM ?_|refine zN ?_|refine zO ?_|refine zP ?_|refine zQ ?_|refine zR ?_|refine zS ?_|refine zU ?_|refine zV ?_|refine zW ?_|refine zt (fun hcd => ?_) (fun hcd => ?_)|refine zu (fun hcd => ?_) (fun hcd => ?_)|refine zX ?_|refine zY ?_|refine zv (fun hcd => ?_) (fun hcd => ?_)|refine zk ?_|refine zl ?_|refine zm ?_|refine zn ?_|refine zf ?_|refine zg ?_|refine zj ?_|refine zZ ?_|refine zh ?_|refine zi ?_|refine zo ?_|refine zp ?_|refine zq ?_|refine zr ?_|refine zs ?_)
      refine r_st_i (i := k) (e := 3) (base := 0) rfl hOr rfl rfl (by omega) fun w9 h9 hg9 hs9 => ?_
      have hCr := Ch.grown (S := fun g => (Value.slice qr' (T2.getD i []).length mr).ownBlock = some g) hg9 fun g hg => hg
      have hOT9 := hset w9 ((T2.getD i []).set k (-7)) (by simp) h9 hCr
      have hC9 : Ch (fun g => w2.heap.size ≤ g ∧ (Value.slice qp Sh.length cp).ownBlock ≠ some g) wk2 w9 := hCr.mono fun g _ hg => hbr g hg
      repeat' (first|refine za ?_|refine zA ?_|refine zB ?_|refine zb ?_|refine zc ?_|refine ze ?_|refine zd ?_|refine zC ?_|refine zD ?_|refine zE ?_|refine zF ?_|refine zG ?_|refine zH ?_|refine zI ?_|refine zJ ?_|refine zK ?_|refine zL ?_|refine zM ?_|refine zN ?_|refine zO ?_|refine zP ?_|refine zQ ?_|refine zR ?_|refine zS ?_|refine zU ?_|refine zV ?_|refine zW ?_|refine zt (fun hcd => ?_) (fun hcd => ?_)|refine zu (fun hcd => ?_) (fun hcd => ?_)|refine zX ?_|refine zY ?_|refine zv (fun hcd => ?_) (fun hcd => ?_)|refine zk ?_|refine zl ?_|refine zm ?_|refine zn ?_|refine zf ?_|refine zg ?_|refine zj ?_|refine zZ ?_|refine zh ?_|refine zi ?_|refine zo ?_|refine zp ?_|refine zq ?_|refine zr ?_|refine zs ?_)
      refine ⟨k + 1, _, ⟨rfl, trivial⟩, ⟨by omega, by simp [hTl2], fun j => ?_, hOT9, hC2.trans hC9⟩, by omega⟩
      by_cases e : j = i
      · subst e
        simp [List.getD, hTl2, hi3] at hli ⊢
        exact hli
      · have : (T2.set i ((T2.getD i []).set k (-7))).getD j [] = T2.getD j [] := by simp only [List.getD, List.getElem?_set]; rw [if_neg (Ne.symm e)]
        rw [this]; exact hTlen2 j
    · repeat' (first|refine za ?_|refine zA ?_|refine zB ?_|refine zb ?_|refine zc ?_|refine ze ?_|refine zd ?_|refine zC ?_|refine zD ?_|refine zE ?_|refine zF ?_|refine zG ?_|refine zH ?_|refine zI ?_|refine zJ ?_|refine zK ?_|refine zL ?_|refine zM ?_|refine zN ?_|refine zO ?_|refine zP ?_|refine zQ ?_|refine zR ?_|refine zS ?_|refine zU ?_|refine zV ?_|refine zW ?_|refine zt (fun hcd => ?_) (fun hcd => ?_)|refine zu (fun hcd => ?_) (fun hcd => ?_)|refine zX ?_|refine zY ?_|refine zv (fun hcd => ?_) (fun hcd => ?_)|refine zk ?_|refine zl ?_|refine zm ?_|refine zn ?_|refine zf ?_|refine zg ?_|refine zj ?_|refine zZ ?_|refine zh ?_|refine zi ?_|refine zo ?_|refine zp ?_|refine zq ?_|refine zr ?_|refine zs ?_)
      exact ⟨i + 1, T2, ⟨rfl, trivial⟩, ⟨by omega, hTl2, hTlen2, hOT2, hC2⟩, by omega⟩
  have hpk := ownsRow_keep hp8 hC fun g hg e => e.2 hg
  have hC' : Ch (fun g => w2.heap.size ≤ g) w8 wk := hC.mono fun g _ e => e.1
  clear hOT hp8 hC hT hTlen hTl'
  repeat' (first|refine za ?_|refine zA ?_|refine zB ?_|refine zb ?_|refine zc ?_|refine ze ?_|refine zd ?_|refine zC ?_|refine zD ?_|refine zE ?_|refine zF ?_|refine zG ?_|refine zH ?_|refine zI ?_|refine zJ ?_|refine zK ?_|refine zL ?_|refine zM ?_|refine zN ?_|refine zO ?_|refine zP ?_|refine zQ ?_|refine zR ?_|refine zS ?_|refine zU ?_|refine zV ?_|refine zW ?_|refine zt (fun hcd => ?_) (fun hcd => ?_)|refine zu (fun hcd => ?_) (fun hcd => ?_)|refine zX ?_|refine zY ?_|refine zv (fun hcd => ?_) (fun hcd => ?_)|refine zk ?_|refine zl ?_|refine zm ?_|refine zn ?_|refine zf ?_|refine zg ?_|refine zj ?_|refine zZ ?_|refine zh ?_|refine zi ?_|refine zo ?_|refine zp ?_|refine zq ?_|refine zr ?_|refine zs ?_)
  refine wc_loop2 [0, 5, 6, 9, 10, 13, 15] (fun (i : Nat) (_ : List (Int × Int)) => [(19, .int .i64 i)]) (fun i P wl => i ≤ Sh.length ∧ P.length = Sh.length ∧ OwnP wl w2.heap.size 42 (.slice qp Sh.length cp) P ∧ Ch (fun g => w2.heap.size ≤ g) w8 wl) (fun i _ => Sh.length - i) 0 Sh rfl ⟨rfl, trivial⟩ ⟨by omega, rfl, hpk, hC'⟩ ?_
  clear hpk hC'
  rintro j P wl y ⟨hj, hPl, hOp, hC⟩
  by_cases hjl : j < Sh.length
  · have hps' := (OwnP.pairs (show OwnP wl w2.heap.size 42 (.slice qp P.length cp) P by rw [hPl]; exact hOp)).isSome (by omega)
    repeat' (first|refine za ?_|refine zA ?_|refine zB ?_|refine zb ?_|refine zc ?_|refine ze ?_|refine zd ?_|refine zC ?_|refine zD ?_|refine zE ?_|refine zF ?_|refine zG ?_|refine zH ?_|refine zI ?_|refine zJ ?_|refine zK ?_|refine zL ?_|refine zM ?_|refine zN ?_|refine zO ?_|refine zP ?_|refine zQ ?_|refine zR ?_|refine zS ?_|refine zU ?_|refine zV ?_|refine zW ?_|refine zt (fun hcd => ?_) (fun hcd => ?_)|refine zu (fun hcd => ?_) (fun hcd => ?_)|refine zX ?_|refine zY ?_|refine zv (fun hcd => ?_) (fun hcd => ?_)|refine zk ?_|refine zl ?_|refine zm ?_|refine zn ?_|refine zf ?_|refine zg ?_|refine zj ?_|refine zZ ?_|refine zh ?_|refine zi ?_|refine zo ?_|refine zp ?_|refine zq ?_|refine zr ?_|refine zs ?_)
    refine r_build (blt42 (-7) (-7)) ?_
    repeat' (first|refine za ?_|refine zA ?_|refine zB ?_|refine zb ?_|refine zc ?_|refine ze ?_|refine zd ?_|refine zC ?_|refine zD ?_|refine zE ?_|refine zF ?_|refine zG ?_|refine zH ?_|refine zI ?_|refine zJ ?_|refine zK ?_|refine zL ?_|refine zM ?_|refine zN ?_|refine zO ?_|refine zP ?_|refine zQ ?_|refine zR ?_|refine zS ?_|refine zU ?_|refine zV ?_|refine zW ?_|refine zt (fun hcd => ?_) (fun hcd => ?_)|refine zu (fun hcd => ?_) (fun hcd => ?_)|refine zX ?_|refine zY ?_|refine zv (fun hcd => ?_) (fun hcd => ?_)|refine zk ?_|refine zl ?_|refine zm ?_|refine zn ?_|refine zf ?_|refine zg ?_|refine zj ?_|refine zZ ?_|refine zh ?_|refine zi ?_|refine zo ?_|refine zp ?_|refine zq ?_|refine zr ?_|refine zs ?_)
    refine r_st_pp (i := j) (a := -7) (b := -7) ag42w hOp rfl rfl (by omega) fun w9 h9 hC9 hs9 => ?_
    repeat' (first|refine za ?_|refine zA ?_|refine zB ?_|refine zb ?_|refine zc ?_|refine ze ?_|refine zd ?_|refine zC ?_|refine zD ?_|refine zE ?_|refine zF ?_|refine zG ?_|refine zH ?_|refine zI ?_|refine zJ ?_|refine zK ?_|refine zL ?_|refine zM ?_|refine zN ?_|refine zO ?_|refine zP ?_|refine zQ ?_|refine zR ?_|refine zS ?_|refine zU ?_|refine zV ?_|refine zW ?_|refine zt (fun hcd => ?_) (fun hcd => ?_)|refine zu (fun hcd => ?_) (fun hcd => ?_)|refine zX ?_|refine zY ?_|refine zv (fun hcd => ?_) (fun hcd => ?_)|refine zk ?_|refine zl ?_|refine zm ?_|refine zn ?_|refine zf ?_|refine zg ?_|refine zj ?_|refine zZ ?_|refine zh ?_|refine zi ?_|refine zo ?_|refine zp ?_|refine zq ?_|refine zr ?_|refine zs ?_)
    exact ⟨j + 1, _, ⟨rfl, trivial⟩, ⟨by omega, by rw [List.length_set]; exact hPl, h9, hC.trans (hC9.mono fun g _ e => hpb g e)⟩, by omega⟩
  have hEl : Ext w2 wl := Ch.trans' hE28 hC fun g hg e => by omega
  clear hOp hC
  have hPl := hP.ext hEl
  have lol : ∀ g, (Value.slice qe L.length ce).ownBlock = some g → ∀ w', Ext wl w' → g < w'.heap.size := fun g hg w' h => by have := lo g hg; have := (hEl.trans h).size; omega
  repeat' (first|refine za ?_|refine zA ?_|refine zB ?_|refine zb ?_|refine zc ?_|refine ze ?_|refine zd ?_|refine zC ?_|refine zD ?_|refine zE ?_|refine zF ?_|refine zG ?_|refine zH ?_|refine zI ?_|refine zJ ?_|refine zK ?_|refine zL ?_|refine zM ?_|refine zN ?_|refine zO ?_|refine zP ?_|refine zQ ?_|refine zR ?_|refine zS ?_|refine zU ?_|refine zV ?_|refine zW ?_|refine zt (fun hcd => ?_) (fun hcd => ?_)|refine zu (fun hcd => ?_) (fun hcd => ?_)|refine zX ?_|refine zY ?_|refine zv (fun hcd => ?_) (fun hcd => ?_)|refine zk ?_|refine zl ?_|refine zm ?_|refine zn ?_|refine zf ?_|refine zg ?_|refine zj ?_|refine zZ ?_|refine zh ?_|refine zi ?_|refine zo ?_|refine zp ?_|refine zq ?_|refine zr ?_|refine zs ?_)
  (refine r_call (R := ?_) rfl ?_ ?_; rotate_left 1; focus exact cores_any (n : Int) _ L _ hPl (by omega) (fun g hg => lol g hg _ (Ext.refl _)))
  rintro v w9 ⟨hR, hE9⟩
  unfold CoresR at hR
  rw [if_pos hG] at hR
  obtain ⟨vc, rfl, hC9⟩ := hR
  simp only [Int.toNat_natCast] at hC9 ⊢
  have hI9 := OwnI.ints hC9
  rw [hCC] at hI9
  obtain ⟨q9, c9, rfl, _⟩ := hI9.slice
  clear hC9
  repeat' (first|refine za ?_|refine zA ?_|refine zB ?_|refine zb ?_|refine zc ?_|refine ze ?_|refine zd ?_|refine zC ?_|refine zD ?_|refine zE ?_|refine zF ?_|refine zG ?_|refine zH ?_|refine zI ?_|refine zJ ?_|refine zK ?_|refine zL ?_|refine zM ?_|refine zN ?_|refine zO ?_|refine zP ?_|refine zQ ?_|refine zR ?_|refine zS ?_|refine zU ?_|refine zV ?_|refine zW ?_|refine zt (fun hcd => ?_) (fun hcd => ?_)|refine zu (fun hcd => ?_) (fun hcd => ?_)|refine zX ?_|refine zY ?_|refine zv (fun hcd => ?_) (fun hcd => ?_)|refine zk ?_|refine zl ?_|refine zm ?_|refine zn ?_|refine zf ?_|refine zg ?_|refine zj ?_|refine zZ ?_|refine zh ?_|refine zi ?_|refine zo ?_|refine zp ?_|refine zq ?_|refine zr ?_|refine zs ?_)
  (refine r_call (R := ?_) rfl ?_ ?_; rotate_left 1; focus exact densest_any n _ L _ (hPl.ext hE9) (by omega) (fun g hg => lol g hg _ hE9))
  rintro v w10 ⟨hR, hE10⟩
  unfold DensR at hR
  rw [if_pos hG] at hR
  obtain ⟨S', Sh', vs', vsh', rfl, hS', hSh', _, hD', _⟩ := hR
  have hSS := hD.uniq hD'
  subst hSS
  have hI10 := OwnI.ints hS'
  obtain ⟨q10, c10, rfl, _⟩ := hI10.slice
  obtain ⟨q10', c10', rfl, _⟩ := (OwnP.pairs hSh').slice
  clear hS' hSh'
  repeat' (first|refine za ?_|refine zA ?_|refine zB ?_|refine zb ?_|refine zc ?_|refine ze ?_|refine zd ?_|refine zC ?_|refine zD ?_|refine zE ?_|refine zF ?_|refine zG ?_|refine zH ?_|refine zI ?_|refine zJ ?_|refine zK ?_|refine zL ?_|refine zM ?_|refine zN ?_|refine zO ?_|refine zP ?_|refine zQ ?_|refine zR ?_|refine zS ?_|refine zU ?_|refine zV ?_|refine zW ?_|refine zt (fun hcd => ?_) (fun hcd => ?_)|refine zu (fun hcd => ?_) (fun hcd => ?_)|refine zX ?_|refine zY ?_|refine zv (fun hcd => ?_) (fun hcd => ?_)|refine zk ?_|refine zl ?_|refine zm ?_|refine zn ?_|refine zf ?_|refine zg ?_|refine zj ?_|refine zZ ?_|refine zh ?_|refine zi ?_|refine zo ?_|refine zp ?_|refine zq ?_|refine zr ?_|refine zs ?_)
  refine r_allocN z48 fun w11 hb11 hE11 hs11 => ?_
  obtain ⟨b23, eb23⟩ : ∃ b, b = w10.heap.size := ⟨_, rfl⟩
  rw [← eb23] at hb11 ⊢
  repeat' (first|refine za ?_|refine zA ?_|refine zB ?_|refine zb ?_|refine zc ?_|refine ze ?_|refine zd ?_|refine zC ?_|refine zD ?_|refine zE ?_|refine zF ?_|refine zG ?_|refine zH ?_|refine zI ?_|refine zJ ?_|refine zK ?_|refine zL ?_|refine zM ?_|refine zN ?_|refine zO ?_|refine zP ?_|refine zQ ?_|refine zR ?_|refine zS ?_|refine zU ?_|refine zV ?_|refine zW ?_|refine zt (fun hcd => ?_) (fun hcd => ?_)|refine zu (fun hcd => ?_) (fun hcd => ?_)|refine zX ?_|refine zY ?_|refine zv (fun hcd => ?_) (fun hcd => ?_)|refine zk ?_|refine zl ?_|refine zm ?_|refine zn ?_|refine zf ?_|refine zg ?_|refine zj ?_|refine zZ ?_|refine zh ?_|refine zi ?_|refine zo ?_|refine zp ?_|refine zq ?_|refine zr ?_|refine zs ?_)
  refine r_stN (ws := [.int .i64 (dnum L S : Int), .int .i64 (dden L S : Int)]) ag48 (by decide) hb11 (by rw [ints_length]; simp) rfl rfl rfl (by intro q hq; simp at hq; rcases hq with rfl | rfl <;> rfl) fun w12 h12 hC12 hs12 => ?_
  have hE12 : Ext w10 w12 := Ch.trans' hE11 hC12 fun k hk e => by omega
  have hEl12 := (hE9.trans hE10).trans hE12
  have hE212 := hEl.trans hEl12
  have hP12 := hP.ext hE212
  have hK12 := hK.ext hE212
  have hes := hP.isSome
  have hks := hK.isSome
  clear h12 hC12 hb11
  repeat' (first|refine za ?_|refine zA ?_|refine zB ?_|refine zb ?_|refine zc ?_|refine ze ?_|refine zd ?_|refine zC ?_|refine zD ?_|refine zE ?_|refine zF ?_|refine zG ?_|refine zH ?_|refine zI ?_|refine zJ ?_|refine zK ?_|refine zL ?_|refine zM ?_|refine zN ?_|refine zO ?_|refine zP ?_|refine zQ ?_|refine zR ?_|refine zS ?_|refine zU ?_|refine zV ?_|refine zW ?_|refine zt (fun hcd => ?_) (fun hcd => ?_)|refine zu (fun hcd => ?_) (fun hcd => ?_)|refine zX ?_|refine zY ?_|refine zv (fun hcd => ?_) (fun hcd => ?_)|refine zk ?_|refine zl ?_|refine zm ?_|refine zn ?_|refine zf ?_|refine zg ?_|refine zj ?_|refine zZ ?_|refine zh ?_|refine zi ?_|refine zo ?_|refine zp ?_|refine zq ?_|refine zr ?_|refine zs ?_)
  refine wc_loop [0, 5, 6, 20, 22] (fun (i : Nat) => [(26, .int .i64 i)]) (fun i wk => i ≤ L.length ∧ Ext w12 wk) (fun i => L.length - i) 0 rfl ⟨rfl, trivial⟩ ⟨by omega, Ext.refl _⟩ ?_
  rintro i wk x ⟨hi, hEk⟩
  by_cases hin : i < L.length
  · have hEd := hEk.trans (Ext.drew wk)
    obtain ⟨e0, e1⟩ := (hP12.ext hEd).rd hin
    obtain ⟨k0, k1⟩ := (hK12.ext hEd).rd hin
    have hes := hes (by omega)
    have hks := hks (by omega)
    generalize L.getD i (0, 0) = ab at *
    obtain ⟨a, b⟩ := ab
    repeat' (first|refine za ?_|refine zA ?_|refine zB ?_|refine zb ?_|refine zc ?_|refine ze ?_|refine zd ?_|refine zC ?_|refine zD ?_|refine zE ?_|refine zF ?_|refine zG ?_|refine zH ?_|refine zI ?_|refine zJ ?_|refine zK ?_|refine zL ?_|refine zM ?_|refine zN ?_|refine zO ?_|refine zP ?_|refine zQ ?_|refine zR ?_|refine zS ?_|refine zU ?_|refine zV ?_|refine zW ?_|refine zt (fun hcd => ?_) (fun hcd => ?_)|refine zu (fun hcd => ?_) (fun hcd => ?_)|refine zX ?_|refine zY ?_|refine zv (fun hcd => ?_) (fun hcd => ?_)|refine zk ?_|refine zl ?_|refine zm ?_|refine zn ?_|refine zf ?_|refine zg ?_|refine zj ?_|refine zZ ?_|refine zh ?_|refine zi ?_|refine zo ?_|refine zp ?_|refine zq ?_|refine zr ?_|refine zs ?_)
    (refine wc_drawn 8 (by kernel_rfl) (by kernel_rfl) ?_; simp only [List.take_succ_cons, List.take_zero, List.drop_succ_cons, List.drop_zero])
    repeat' (first|refine za ?_|refine zA ?_|refine zB ?_|refine zb ?_|refine zc ?_|refine ze ?_|refine zd ?_|refine zC ?_|refine zD ?_|refine zE ?_|refine zF ?_|refine zG ?_|refine zH ?_|refine zI ?_|refine zJ ?_|refine zK ?_|refine zL ?_|refine zM ?_|refine zN ?_|refine zO ?_|refine zP ?_|refine zQ ?_|refine zR ?_|refine zS ?_|refine zU ?_|refine zV ?_|refine zW ?_|refine zt (fun hcd => ?_) (fun hcd => ?_)|refine zu (fun hcd => ?_) (fun hcd => ?_)|refine zX ?_|refine zY ?_|refine zv (fun hcd => ?_) (fun hcd => ?_)|refine zk ?_|refine zl ?_|refine zm ?_|refine zn ?_|refine zf ?_|refine zg ?_|refine zj ?_|refine zZ ?_|refine zh ?_|refine zi ?_|refine zo ?_|refine zp ?_|refine zq ?_|refine zr ?_|refine zs ?_)
    refine r_ldP ag46 rfl e0 e1 ?_
    repeat' (first|refine za ?_|refine zA ?_|refine zB ?_|refine zb ?_|refine zc ?_|refine ze ?_|refine zd ?_|refine zC ?_|refine zD ?_|refine zE ?_|refine zF ?_|refine zG ?_|refine zH ?_|refine zI ?_|refine zJ ?_|refine zK ?_|refine zL ?_|refine zM ?_|refine zN ?_|refine zO ?_|refine zP ?_|refine zQ ?_|refine zR ?_|refine zS ?_|refine zU ?_|refine zV ?_|refine zW ?_|refine zt (fun hcd => ?_) (fun hcd => ?_)|refine zu (fun hcd => ?_) (fun hcd => ?_)|refine zX ?_|refine zY ?_|refine zv (fun hcd => ?_) (fun hcd => ?_)|refine zk ?_|refine zl ?_|refine zm ?_|refine zn ?_|refine zf ?_|refine zg ?_|refine zj ?_|refine zZ ?_|refine zh ?_|refine zi ?_|refine zo ?_|refine zp ?_|refine zq ?_|refine zr ?_|refine zs ?_)
    refine r_ldP ag46 rfl k0 k1 ?_
    repeat' (first|refine za ?_|refine zA ?_|refine zB ?_|refine zb ?_|refine zc ?_|refine ze ?_|refine zd ?_|refine zC ?_|refine zD ?_|refine zE ?_|refine zF ?_|refine zG ?_|refine zH ?_|refine zI ?_|refine zJ ?_|refine zK ?_|refine zL ?_|refine zM ?_|refine zN ?_|refine zO ?_|refine zP ?_|refine zQ ?_|refine zR ?_|refine zS ?_|refine zU ?_|refine zV ?_|refine zW ?_|refine zt (fun hcd => ?_) (fun hcd => ?_)|refine zu (fun hcd => ?_) (fun hcd => ?_)|refine zX ?_|refine zY ?_|refine zv (fun hcd => ?_) (fun hcd => ?_)|refine zk ?_|refine zl ?_|refine zm ?_|refine zn ?_|refine zf ?_|refine zg ?_|refine zj ?_|refine zZ ?_|refine zh ?_|refine zi ?_|refine zo ?_|refine zp ?_|refine zq ?_|refine zr ?_|refine zs ?_)
    refine r_neqA_f (A := [a, b]) (B := [a, b]) eq46 rfl rfl rfl rfl rfl ?_
    repeat' (first|refine za ?_|refine zA ?_|refine zB ?_|refine zb ?_|refine zc ?_|refine ze ?_|refine zd ?_|refine zC ?_|refine zD ?_|refine zE ?_|refine zF ?_|refine zG ?_|refine zH ?_|refine zI ?_|refine zJ ?_|refine zK ?_|refine zL ?_|refine zM ?_|refine zN ?_|refine zO ?_|refine zP ?_|refine zQ ?_|refine zR ?_|refine zS ?_|refine zU ?_|refine zV ?_|refine zW ?_|refine zt (fun hcd => ?_) (fun hcd => ?_)|refine zu (fun hcd => ?_) (fun hcd => ?_)|refine zX ?_|refine zY ?_|refine zv (fun hcd => ?_) (fun hcd => ?_)|refine zk ?_|refine zl ?_|refine zm ?_|refine zn ?_|refine zf ?_|refine zg ?_|refine zj ?_|refine zZ ?_|refine zh ?_|refine zi ?_|refine zo ?_|refine zp ?_|refine zq ?_|refine zr ?_|refine zs ?_)
    exact ⟨i + 1, ⟨rfl, trivial⟩, ⟨by omega, hEd⟩, by omega⟩
  · have hK13 := hK12.ext hEk
    repeat' (first|refine za ?_|refine zA ?_|refine zB ?_|refine zb ?_|refine zc ?_|refine ze ?_|refine zd ?_|refine zC ?_|refine zD ?_|refine zE ?_|refine zF ?_|refine zG ?_|refine zH ?_|refine zI ?_|refine zJ ?_|refine zK ?_|refine zL ?_|refine zM ?_|refine zN ?_|refine zO ?_|refine zP ?_|refine zQ ?_|refine zR ?_|refine zS ?_|refine zU ?_|refine zV ?_|refine zW ?_|refine zt (fun hcd => ?_) (fun hcd => ?_)|refine zu (fun hcd => ?_) (fun hcd => ?_)|refine zX ?_|refine zY ?_|refine zv (fun hcd => ?_) (fun hcd => ?_)|refine zk ?_|refine zl ?_|refine zm ?_|refine zn ?_|refine zf ?_|refine zg ?_|refine zj ?_|refine zZ ?_|refine zh ?_|refine zi ?_|refine zo ?_|refine zp ?_|refine zq ?_|refine zr ?_|refine zs ?_)
    (refine r_call (R := ?_) rfl ?_ ?_; rotate_left 1; focus exact rcores_any n _ L _ hK13 (by omega) hGd (by omega))
    rintro vr w14 ⟨hOr, hE14⟩
    rw [hCC] at hOr
    have hIr := OwnI.ints hOr
    obtain ⟨qr1, cr1, rfl, _⟩ := hIr.slice
    have hE1214 := hEk.trans hE14
    repeat' (first|refine za ?_|refine zA ?_|refine zB ?_|refine zb ?_|refine zc ?_|refine ze ?_|refine zd ?_|refine zC ?_|refine zD ?_|refine zE ?_|refine zF ?_|refine zG ?_|refine zH ?_|refine zI ?_|refine zJ ?_|refine zK ?_|refine zL ?_|refine zM ?_|refine zN ?_|refine zO ?_|refine zP ?_|refine zQ ?_|refine zR ?_|refine zS ?_|refine zU ?_|refine zV ?_|refine zW ?_|refine zt (fun hcd => ?_) (fun hcd => ?_)|refine zu (fun hcd => ?_) (fun hcd => ?_)|refine zX ?_|refine zY ?_|refine zv (fun hcd => ?_) (fun hcd => ?_)|refine zk ?_|refine zl ?_|refine zm ?_|refine zn ?_|refine zf ?_|refine zg ?_|refine zj ?_|refine zZ ?_|refine zh ?_|refine zi ?_|refine zo ?_|refine zp ?_|refine zq ?_|refine zr ?_|refine zs ?_)
    (refine r_call (R := ?_) rfl ?_ ?_; rotate_left 1; focus exact ints_any _ _ C C _ (hI9.ext ((hE10.trans hE12).trans hE1214)) hIr (by omega) (by omega))
    rintro v w15 ⟨hv, hE15⟩
    rw [decide_eq_true rfl] at hv
    subst hv
    repeat' (first|refine za ?_|refine zA ?_|refine zB ?_|refine zb ?_|refine zc ?_|refine ze ?_|refine zd ?_|refine zC ?_|refine zD ?_|refine zE ?_|refine zF ?_|refine zG ?_|refine zH ?_|refine zI ?_|refine zJ ?_|refine zK ?_|refine zL ?_|refine zM ?_|refine zN ?_|refine zO ?_|refine zP ?_|refine zQ ?_|refine zR ?_|refine zS ?_|refine zU ?_|refine zV ?_|refine zW ?_|refine zt (fun hcd => ?_) (fun hcd => ?_)|refine zu (fun hcd => ?_) (fun hcd => ?_)|refine zX ?_|refine zY ?_|refine zv (fun hcd => ?_) (fun hcd => ?_)|refine zk ?_|refine zl ?_|refine zm ?_|refine zn ?_|refine zf ?_|refine zg ?_|refine zj ?_|refine zZ ?_|refine zh ?_|refine zi ?_|refine zo ?_|refine zp ?_|refine zq ?_|refine zr ?_|refine zs ?_)
    (refine r_call (R := ?_) rfl ?_ ?_; rotate_left 1; focus exact rdensest_any n _ L _ (hK13.ext (hE14.trans hE15)) (by omega) hGd (by omega))
    rintro vr w16 ⟨⟨all, best, size, hBst, hOr2⟩, hE16⟩
    rw [hBst.dens hGd (by omega) hD] at hOr2
    have hIr2 := OwnI.ints hOr2
    obtain ⟨qr2, cr2, rfl, _⟩ := hIr2.slice
    have hE1216 := (hE1214.trans hE15).trans hE16
    repeat' (first|refine za ?_|refine zA ?_|refine zB ?_|refine zb ?_|refine zc ?_|refine ze ?_|refine zd ?_|refine zC ?_|refine zD ?_|refine zE ?_|refine zF ?_|refine zG ?_|refine zH ?_|refine zI ?_|refine zJ ?_|refine zK ?_|refine zL ?_|refine zM ?_|refine zN ?_|refine zO ?_|refine zP ?_|refine zQ ?_|refine zR ?_|refine zS ?_|refine zU ?_|refine zV ?_|refine zW ?_|refine zt (fun hcd => ?_) (fun hcd => ?_)|refine zu (fun hcd => ?_) (fun hcd => ?_)|refine zX ?_|refine zY ?_|refine zv (fun hcd => ?_) (fun hcd => ?_)|refine zk ?_|refine zl ?_|refine zm ?_|refine zn ?_|refine zf ?_|refine zg ?_|refine zj ?_|refine zZ ?_|refine zh ?_|refine zi ?_|refine zo ?_|refine zp ?_|refine zq ?_|refine zr ?_|refine zs ?_)
    (refine r_call (R := ?_) rfl ?_ ?_; rotate_left 1; focus exact ints_any _ _ S S _ (hI10.ext (hE12.trans hE1216)) hIr2 (by omega) (by omega))
    rintro v w17 ⟨hv, hE17⟩
    rw [decide_eq_true rfl] at hv
    subst hv
    repeat' (first|refine za ?_|refine zA ?_|refine zB ?_|refine zb ?_|refine zc ?_|refine ze ?_|refine zd ?_|refine zC ?_|refine zD ?_|refine zE ?_|refine zF ?_|refine zG ?_|refine zH ?_|refine zI ?_|refine zJ ?_|refine zK ?_|refine zL ?_|refine zM ?_|refine zN ?_|refine zO ?_|refine zP ?_|refine zQ ?_|refine zR ?_|refine zS ?_|refine zU ?_|refine zV ?_|refine zW ?_|refine zt (fun hcd => ?_) (fun hcd => ?_)|refine zu (fun hcd => ?_) (fun hcd => ?_)|refine zX ?_|refine zY ?_|refine zv (fun hcd => ?_) (fun hcd => ?_)|refine zk ?_|refine zl ?_|refine zm ?_|refine zn ?_|refine zf ?_|refine zg ?_|refine zj ?_|refine zZ ?_|refine zh ?_|refine zi ?_|refine zo ?_|refine zp ?_|refine zq ?_|refine zr ?_|refine zs ?_)
    (refine r_call (R := ?_) rfl ?_ ?_; rotate_left 1; focus exact awake_any _)
    rintro v wg ⟨rfl, hEg⟩
    repeat' (first|refine za ?_|refine zA ?_|refine zB ?_|refine zb ?_|refine zc ?_|refine ze ?_|refine zd ?_|refine zC ?_|refine zD ?_|refine zE ?_|refine zF ?_|refine zG ?_|refine zH ?_|refine zI ?_|refine zJ ?_|refine zK ?_|refine zL ?_|refine zM ?_|refine zN ?_|refine zO ?_|refine zP ?_|refine zQ ?_|refine zR ?_|refine zS ?_|refine zU ?_|refine zV ?_|refine zW ?_|refine zt (fun hcd => ?_) (fun hcd => ?_)|refine zu (fun hcd => ?_) (fun hcd => ?_)|refine zX ?_|refine zY ?_|refine zv (fun hcd => ?_) (fun hcd => ?_)|refine zk ?_|refine zl ?_|refine zm ?_|refine zn ?_|refine zf ?_|refine zg ?_|refine zj ?_|refine zZ ?_|refine zh ?_|refine zi ?_|refine zo ?_|refine zp ?_|refine zq ?_|refine zr ?_|refine zs ?_)
    refine post1 (v := .bool true) rfl rfl ?_
    exact ⟨rfl, (((hEa2.trans hE212).trans hE1216).trans hE17).trans hEg⟩
end Go.Proofs.Ytibegggcinonkaa
