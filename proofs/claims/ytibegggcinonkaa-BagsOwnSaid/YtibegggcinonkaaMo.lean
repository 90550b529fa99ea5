/- bags: move. -/
import Derived.Test.YtibegggcinonkaaSh
import Derived.Test.YtibegggcinonkaaPG
namespace Go.Proofs.Ytibegggcinonkaa
open Gv
theorem ct84' : cellT Try.prog 84 = true := ct84
def viaV (Qs : List Int) (Es : List Nat) (v : Int) : Option Value := (viaF Qs Es v).map fun (k : Nat) => Value.int .i64 (k : Int)
theorem viaV_at {Qs : List Int} {Es : List Nat} {j : Nat} (h : Qs.Nodup) (hl : Es.length = Qs.length) (hj : j < Qs.length) : (viaV Qs Es (Qs.getD j 0)).getD (.int .i64 0) = .int .i64 ((Es.getD j 0 : Nat) : Int) := by
  unfold viaV; rw [viaF_at h hl hj]; rfl
set_option maxRecDepth 20000 in
set_option maxHeartbeats 1000000 in
theorem other_any (w : World) (b base b5 b8 bm : Nat) (n most whole : Int) (ve : Value) (q : Option Addr) (c : Nat) (L Sh : List (Int × Int)) (Ld : List Int) (h : ShW w b base n most whole ve q c L Sh Ld) (F : Int → Option Value)
    (h5 : Box w b5 84 (.pointer (some ⟨b, 0, none⟩))) (h8 : Box w b8 105 (.map (some bm))) (hF : MapF encI w bm F) (v : Int) (k : Nat) (hk : k < L.length) (hv : (F v).getD (.int .i64 0) = .int .i64 k)
    (hb : 0 ≤ (ed L k).1 ∧ (ed L k).1 ≤ 16 ∧ 0 ≤ (ed L k).2 ∧ (ed L k).2 ≤ 16 ∧ 0 ≤ v ∧ v ≤ 16) :
    Calls Try.prog 66 #[.int .i64 v, .pointer (some ⟨b5, 0, none⟩), .pointer (some ⟨b8, 0, none⟩)] w (Ret fun v' w' => v' = .int .i64 ((ed L k).1 + (ed L k).2 - v) ∧ Ext w w') := by
  have hE := Ext.drew w
  have h' := h.ext hE
  have hF' := hF.ext hE
  have g5 := (h5.ext hE).rd
  have g8 := (h8.ext hE).rd
  obtain ⟨qe, ce, rfl, hqe⟩ := h'.edg.slice
  obtain ⟨r0, r1, r2, r3, r4⟩ := h'.rds
  have hes := h'.edg.isSome (by omega)
  obtain ⟨e0, e1⟩ := h'.edg.rd hk
  change rd _ _ = some (.int .i64 (ed L k).1) at e0
  change rd _ _ = some (.int .i64 (ed L k).2) at e1
  generalize ed L k = e at *
  refine calls_of_wc (args := [.int .i64 v, .pointer (some ⟨b5, 0, none⟩), .pointer (some ⟨b8, 0, none⟩)]) Try.func66 rfl ?_ ?_; kernel_rfl
  repeat' (first|refine za ?_|refine zA ?_|refine zB ?_|refine zb ?_|refine zc ?_|refine ze ?_|refine zd ?_|refine zC ?_|refine zD ?_|refine zE ?_|refine zF ?_|refine zG ?_|refine zH ?_|refine zI ?_|refine zJ ?_|refine zK ?_|refine zL ?_|refine zM ?_|refine zN ?_|refine zO ?_|refine zP ?_|refine zQ ?_|refine zR ?_|refine zS ?_|refine zU ?_|refine zV ?_|refine zW ?_|refine zt (fun hcd => ?_) (fun hcd => ?_)|refine zu (fun hcd => ?_) (fun hcd => ?_)|refine zX ?_|refine zY ?_|refine zv (fun hcd => ?_) (fun hcd => ?_)|refine zk ?_|refine zl ?_|refine zm ?_|refine zn ?_|refine zf ?_|refine zg ?_|refine zj ?_|refine zZ ?_|refine zh ?_|refine zi ?_|refine zo ?_|refine zp ?_|refine zq ?_|refine zr ?_|refine zs ?_)
  (refine wc_drawn 24 (by kernel_rfl) (by kernel_rfl) ?_; simp only [List.take_succ_cons, List.take_zero, List.drop_succ_cons, List.drop_zero])
  repeat' (first|refine za ?_|refine zA ?_|refine zB ?_|refine zb ?_|refine zc ?_|refine ze ?_|refine zd ?_|refine zC ?_|refine zD ?_|refine zE ?_|refine zF ?_|refine zG ?_|refine zH ?_|refine zI ?_|refine zJ ?_|refine zK ?_|refine zL ?_|refine zM ?_|refine zN ?_|refine zO ?_|refine zP ?_|refine zQ ?_|refine zR ?_|refine zS ?_|refine zU ?_|refine zV ?_|refine zW ?_|refine zt (fun hcd => ?_) (fun hcd => ?_)|refine zu (fun hcd => ?_) (fun hcd => ?_)|refine zX ?_|refine zY ?_|refine zv (fun hcd => ?_) (fun hcd => ?_)|refine zk ?_|refine zl ?_|refine zm ?_|refine zn ?_|refine zf ?_|refine zg ?_|refine zj ?_|refine zZ ?_|refine zh ?_|refine zi ?_|refine zo ?_|refine zp ?_|refine zq ?_|refine zr ?_|refine zs ?_)
  refine r_faE (o' := 0) fo89_0 rfl rfl ?_
  repeat' (first|refine za ?_|refine zA ?_|refine zB ?_|refine zb ?_|refine zc ?_|refine ze ?_|refine zd ?_|refine zC ?_|refine zD ?_|refine zE ?_|refine zF ?_|refine zG ?_|refine zH ?_|refine zI ?_|refine zJ ?_|refine zK ?_|refine zL ?_|refine zM ?_|refine zN ?_|refine zO ?_|refine zP ?_|refine zQ ?_|refine zR ?_|refine zS ?_|refine zU ?_|refine zV ?_|refine zW ?_|refine zt (fun hcd => ?_) (fun hcd => ?_)|refine zu (fun hcd => ?_) (fun hcd => ?_)|refine zX ?_|refine zY ?_|refine zv (fun hcd => ?_) (fun hcd => ?_)|refine zk ?_|refine zl ?_|refine zm ?_|refine zn ?_|refine zf ?_|refine zg ?_|refine zj ?_|refine zZ ?_|refine zh ?_|refine zi ?_|refine zo ?_|refine zp ?_|refine zq ?_|refine zr ?_|refine zs ?_)
  refine r_faE (o' := 1) fo72_1 rfl rfl ?_
  repeat' (first|refine za ?_|refine zA ?_|refine zB ?_|refine zb ?_|refine zc ?_|refine ze ?_|refine zd ?_|refine zC ?_|refine zD ?_|refine zE ?_|refine zF ?_|refine zG ?_|refine zH ?_|refine zI ?_|refine zJ ?_|refine zK ?_|refine zL ?_|refine zM ?_|refine zN ?_|refine zO ?_|refine zP ?_|refine zQ ?_|refine zR ?_|refine zS ?_|refine zU ?_|refine zV ?_|refine zW ?_|refine zt (fun hcd => ?_) (fun hcd => ?_)|refine zu (fun hcd => ?_) (fun hcd => ?_)|refine zX ?_|refine zY ?_|refine zv (fun hcd => ?_) (fun hcd => ?_)|refine zk ?_|refine zl ?_|refine zm ?_|refine zn ?_|refine zf ?_|refine zg ?_|refine zj ?_|refine zZ ?_|refine zh ?_|refine zi ?_|refine zo ?_|refine zp ?_|refine zq ?_|refine zr ?_|refine zs ?_)
  refine r_lookup (k := v) (v := .int .i64 k) mp105 kt3 hF' rfl rfl hv ?_
  repeat' (first|refine za ?_|refine zA ?_|refine zB ?_|refine zb ?_|refine zc ?_|refine ze ?_|refine zd ?_|refine zC ?_|refine zD ?_|refine zE ?_|refine zF ?_|refine zG ?_|refine zH ?_|refine zI ?_|refine zJ ?_|refine zK ?_|refine zL ?_|refine zM ?_|refine zN ?_|refine zO ?_|refine zP ?_|refine zQ ?_|refine zR ?_|refine zS ?_|refine zU ?_|refine zV ?_|refine zW ?_|refine zt (fun hcd => ?_) (fun hcd => ?_)|refine zu (fun hcd => ?_) (fun hcd => ?_)|refine zX ?_|refine zY ?_|refine zv (fun hcd => ?_) (fun hcd => ?_)|refine zk ?_|refine zl ?_|refine zm ?_|refine zn ?_|refine zf ?_|refine zg ?_|refine zj ?_|refine zZ ?_|refine zh ?_|refine zi ?_|refine zo ?_|refine zp ?_|refine zq ?_|refine zr ?_|refine zs ?_)
  refine r_faQ fo46_0 rfl (pidx_isSome hes) ?_
  repeat' (first|refine za ?_|refine zA ?_|refine zB ?_|refine zb ?_|refine zc ?_|refine ze ?_|refine zd ?_|refine zC ?_|refine zD ?_|refine zE ?_|refine zF ?_|refine zG ?_|refine zH ?_|refine zI ?_|refine zJ ?_|refine zK ?_|refine zL ?_|refine zM ?_|refine zN ?_|refine zO ?_|refine zP ?_|refine zQ ?_|refine zR ?_|refine zS ?_|refine zU ?_|refine zV ?_|refine zW ?_|refine zt (fun hcd => ?_) (fun hcd => ?_)|refine zu (fun hcd => ?_) (fun hcd => ?_)|refine zX ?_|refine zY ?_|refine zv (fun hcd => ?_) (fun hcd => ?_)|refine zk ?_|refine zl ?_|refine zm ?_|refine zn ?_|refine zf ?_|refine zg ?_|refine zj ?_|refine zZ ?_|refine zh ?_|refine zi ?_|refine zo ?_|refine zp ?_|refine zq ?_|refine zr ?_|refine zs ?_)
  refine r_faE (o' := 0) fo89_0 rfl rfl ?_
  repeat' (first|refine za ?_|refine zA ?_|refine zB ?_|refine zb ?_|refine zc ?_|refine ze ?_|refine zd ?_|refine zC ?_|refine zD ?_|refine zE ?_|refine zF ?_|refine zG ?_|refine zH ?_|refine zI ?_|refine zJ ?_|refine zK ?_|refine zL ?_|refine zM ?_|refine zN ?_|refine zO ?_|refine zP ?_|refine zQ ?_|refine zR ?_|refine zS ?_|refine zU ?_|refine zV ?_|refine zW ?_|refine zt (fun hcd => ?_) (fun hcd => ?_)|refine zu (fun hcd => ?_) (fun hcd => ?_)|refine zX ?_|refine zY ?_|refine zv (fun hcd => ?_) (fun hcd => ?_)|refine zk ?_|refine zl ?_|refine zm ?_|refine zn ?_|refine zf ?_|refine zg ?_|refine zj ?_|refine zZ ?_|refine zh ?_|refine zi ?_|refine zo ?_|refine zp ?_|refine zq ?_|refine zr ?_|refine zs ?_)
  refine r_faE (o' := 1) fo72_1 rfl rfl ?_
  repeat' (first|refine za ?_|refine zA ?_|refine zB ?_|refine zb ?_|refine zc ?_|refine ze ?_|refine zd ?_|refine zC ?_|refine zD ?_|refine zE ?_|refine zF ?_|refine zG ?_|refine zH ?_|refine zI ?_|refine zJ ?_|refine zK ?_|refine zL ?_|refine zM ?_|refine zN ?_|refine zO ?_|refine zP ?_|refine zQ ?_|refine zR ?_|refine zS ?_|refine zU ?_|refine zV ?_|refine zW ?_|refine zt (fun hcd => ?_) (fun hcd => ?_)|refine zu (fun hcd => ?_) (fun hcd => ?_)|refine zX ?_|refine zY ?_|refine zv (fun hcd => ?_) (fun hcd => ?_)|refine zk ?_|refine zl ?_|refine zm ?_|refine zn ?_|refine zf ?_|refine zg ?_|refine zj ?_|refine zZ ?_|refine zh ?_|refine zi ?_|refine zo ?_|refine zp ?_|refine zq ?_|refine zr ?_|refine zs ?_)
  refine r_lookup (k := v) (v := .int .i64 k) mp105 kt3 hF' rfl rfl hv ?_
  repeat' (first|refine za ?_|refine zA ?_|refine zB ?_|refine zb ?_|refine zc ?_|refine ze ?_|refine zd ?_|refine zC ?_|refine zD ?_|refine zE ?_|refine zF ?_|refine zG ?_|refine zH ?_|refine zI ?_|refine zJ ?_|refine zK ?_|refine zL ?_|refine zM ?_|refine zN ?_|refine zO ?_|refine zP ?_|refine zQ ?_|refine zR ?_|refine zS ?_|refine zU ?_|refine zV ?_|refine zW ?_|refine zt (fun hcd => ?_) (fun hcd => ?_)|refine zu (fun hcd => ?_) (fun hcd => ?_)|refine zX ?_|refine zY ?_|refine zv (fun hcd => ?_) (fun hcd => ?_)|refine zk ?_|refine zl ?_|refine zm ?_|refine zn ?_|refine zf ?_|refine zg ?_|refine zj ?_|refine zZ ?_|refine zh ?_|refine zi ?_|refine zo ?_|refine zp ?_|refine zq ?_|refine zr ?_|refine zs ?_)
  refine r_faQ fo46_1 rfl (pidx_isSome hes) ?_
  repeat' (first|refine za ?_|refine zA ?_|refine zB ?_|refine zb ?_|refine zc ?_|refine ze ?_|refine zd ?_|refine zC ?_|refine zD ?_|refine zE ?_|refine zF ?_|refine zG ?_|refine zH ?_|refine zI ?_|refine zJ ?_|refine zK ?_|refine zL ?_|refine zM ?_|refine zN ?_|refine zO ?_|refine zP ?_|refine zQ ?_|refine zR ?_|refine zS ?_|refine zU ?_|refine zV ?_|refine zW ?_|refine zt (fun hcd => ?_) (fun hcd => ?_)|refine zu (fun hcd => ?_) (fun hcd => ?_)|refine zX ?_|refine zY ?_|refine zv (fun hcd => ?_) (fun hcd => ?_)|refine zk ?_|refine zl ?_|refine zm ?_|refine zn ?_|refine zf ?_|refine zg ?_|refine zj ?_|refine zZ ?_|refine zh ?_|refine zi ?_|refine zo ?_|refine zp ?_|refine zq ?_|refine zr ?_|refine zs ?_)
  refine post1 (v := .int .i64 (e.1 + e.2 - v)) rfl rfl ?_
  exact ⟨rfl, hE⟩
set_option maxRecDepth 20000 in
set_option maxHeartbeats 4000000 in
theorem move_any (w : World) (b base bm : Nat) (n most whole : Int) (ve : Value) (q : Option Addr) (c : Nat) (L Sh : List (Int × Int)) (Ld : List Int) (h : ShW w b base n most whole ve q c L Sh Ld)
    (e j : Nat) (Qs : List Int) (Es : List Nat) (pr : Nat → Nat) (hT : Tr L Sh e n Qs Es pr) (hG : ∀ k, k < L.length → 0 ≤ (ed L k).1 ∧ (ed L k).1 < (ed L k).2 ∧ (ed L k).2 < n) (hn : n ≤ 16) (he : e < L.length) (hL : L.length ≤ 1000)
    (hS : Shr L Sh Ld most whole) (hF : MapF encI w bm (viaV Qs Es)) (hj : j < Qs.length) (A0 : Int) (hA0 : 0 < A0) (hleft : sm Sh e + A0 ≤ whole) (hroom : Ld.getD (Qs.getD j 0).toNat 0 + A0 ≤ most) (hm : most ≤ 1000000) (hw : whole ≤ 1000000) :
    Calls Try.prog 63 #[.pointer (some ⟨b, 0, none⟩), .int .i64 e, .int .i64 (Qs.getD j 0), .map (some bm), .int .i64 A0] w (Ret fun _ w' => ∃ Sh' Ld', ShW w' b base n most whole ve q c L Sh' Ld' ∧ Shr L Sh' Ld' most whole ∧ sm Sh e < sm Sh' e ∧
      (∀ k, k < L.length → k ≠ e → sm Sh' k = sm Sh k) ∧ Ch (fun k => k = b ∨ (Value.slice q L.length c).ownBlock = some k) w w') := by
  have hqs := h.isSome (by omega)
  have hb1 := h.blk.lt
  have hbm := h.nemap hF
  have hve : ∀ i, i < Qs.length → 0 ≤ Qs.getD i 0 ∧ Qs.getD i 0 < n := fun i hi => hT.rng _ (getD_memI hi)
  have hvia : ∀ i, i < Qs.length → (viaV Qs Es (Qs.getD i 0)).getD (.int .i64 0) = .int .i64 ((Es.getD i 0 : Nat) : Int) := fun i hi => viaV_at hT.nodup hT.len hi
  refine calls_of_wc (args := [.pointer (some ⟨b, 0, none⟩), .int .i64 e, .int .i64 (Qs.getD j 0), .map (some bm), .int .i64 A0]) Try.func63 rfl ?_ ?_; kernel_rfl
  repeat' (first|refine za ?_|refine zA ?_|refine zB ?_|refine zb ?_|refine zc ?_|refine ze ?_|refine zd ?_|refine zC ?_|refine zD ?_|refine zE ?_|refine zF ?_|refine zG ?_|refine zH ?_|refine zI ?_|refine zJ ?_|refine zK ?_|refine zL ?_|refine zM ?_|refine zN ?_|refine zO ?_|refine zP ?_|refine zQ ?_|refine zR ?_|refine zS ?_|refine zU ?_|refine zV ?_|refine zW ?_|refine zt (fun hcd => ?_) (fun hcd => ?_)|refine zu (fun hcd => ?_) (fun hcd => ?_)|refine zX ?_|refine zY ?_|refine zv (fun hcd => ?_) (fun hcd => ?_)|refine zk ?_|refine zl ?_|refine zm ?_|refine zn ?_|refine zf ?_|refine zg ?_|refine zj ?_|refine zZ ?_|refine zh ?_|refine zi ?_|refine zo ?_|refine zp ?_|refine zq ?_|refine zr ?_|refine zs ?_)
  refine r_box rfl rfl fun w1 hx5 hE1 hs1 => ?_
  obtain ⟨b5, eb5⟩ : ∃ b, b = w.heap.size := ⟨_, rfl⟩
  rw [← eb5] at hx5 ⊢
  repeat' (first|refine za ?_|refine zA ?_|refine zB ?_|refine zb ?_|refine zc ?_|refine ze ?_|refine zd ?_|refine zC ?_|refine zD ?_|refine zE ?_|refine zF ?_|refine zG ?_|refine zH ?_|refine zI ?_|refine zJ ?_|refine zK ?_|refine zL ?_|refine zM ?_|refine zN ?_|refine zO ?_|refine zP ?_|refine zQ ?_|refine zR ?_|refine zS ?_|refine zU ?_|refine zV ?_|refine zW ?_|refine zt (fun hcd => ?_) (fun hcd => ?_)|refine zu (fun hcd => ?_) (fun hcd => ?_)|refine zX ?_|refine zY ?_|refine zv (fun hcd => ?_) (fun hcd => ?_)|refine zk ?_|refine zl ?_|refine zm ?_|refine zn ?_|refine zf ?_|refine zg ?_|refine zj ?_|refine zZ ?_|refine zh ?_|refine zi ?_|refine zo ?_|refine zp ?_|refine zq ?_|refine zr ?_|refine zs ?_)
  refine r_box rfl rfl fun w2 hx8 hE2 hs2 => ?_
  obtain ⟨b8, eb8⟩ : ∃ b, b = w1.heap.size := ⟨_, rfl⟩
  rw [← eb8] at hx8 ⊢
  have hx5 := hx5.ext hE2
  have hE12 := hE1.trans hE2
  have hW2 := h.ext hE12
  have hF2 := hF.ext hE12
  repeat' (first|refine za ?_|refine zA ?_|refine zB ?_|refine zb ?_|refine zc ?_|refine ze ?_|refine zd ?_|refine zC ?_|refine zD ?_|refine zE ?_|refine zF ?_|refine zG ?_|refine zH ?_|refine zI ?_|refine zJ ?_|refine zK ?_|refine zL ?_|refine zM ?_|refine zN ?_|refine zO ?_|refine zP ?_|refine zQ ?_|refine zR ?_|refine zS ?_|refine zU ?_|refine zV ?_|refine zW ?_|refine zt (fun hcd => ?_) (fun hcd => ?_)|refine zu (fun hcd => ?_) (fun hcd => ?_)|refine zX ?_|refine zY ?_|refine zv (fun hcd => ?_) (fun hcd => ?_)|refine zk ?_|refine zl ?_|refine zm ?_|refine zn ?_|refine zf ?_|refine zg ?_|refine zj ?_|refine zZ ?_|refine zh ?_|refine zi ?_|refine zo ?_|refine zp ?_|refine zq ?_|refine zr ?_|refine zs ?_)
  refine r_mkfn (as_ := []) (bs := [.tmp 5, .tmp 8]) ?_
  refine wl_plain ?_
  refine r_assign_v (v := .func (.func 66) #[] #[.pointer (some ⟨b5, 0, none⟩), .pointer (some ⟨b8, 0, none⟩)]) rfl ?_
  repeat' (first|refine za ?_|refine zA ?_|refine zB ?_|refine zb ?_|refine zc ?_|refine ze ?_|refine zd ?_|refine zC ?_|refine zD ?_|refine zE ?_|refine zF ?_|refine zG ?_|refine zH ?_|refine zI ?_|refine zJ ?_|refine zK ?_|refine zL ?_|refine zM ?_|refine zN ?_|refine zO ?_|refine zP ?_|refine zQ ?_|refine zR ?_|refine zS ?_|refine zU ?_|refine zV ?_|refine zW ?_|refine zt (fun hcd => ?_) (fun hcd => ?_)|refine zu (fun hcd => ?_) (fun hcd => ?_)|refine zX ?_|refine zY ?_|refine zv (fun hcd => ?_) (fun hcd => ?_)|refine zk ?_|refine zl ?_|refine zm ?_|refine zn ?_|refine zf ?_|refine zg ?_|refine zj ?_|refine zZ ?_|refine zh ?_|refine zi ?_|refine zo ?_|refine zp ?_|refine zq ?_|refine zr ?_|refine zs ?_)
  refine wc_loop2 [1, 2, 5, 8, 10] (fun (i : Nat) (A : Int) => [(4, .int .i64 A), (11, .int .i64 (Qs.getD i 0))]) (fun i A wk => Ext w2 wk ∧ i < Qs.length ∧ 0 < A ∧ A ≤ A0 ∧ ∀ B, B ≤ A → Way L Sh Qs Es pr B i → Way L Sh Qs Es pr B j) (fun i _ => i) j A0 rfl ⟨rfl, rfl, trivial⟩ ⟨Ext.refl _, hj, hA0, by omega, fun _ _ h => h⟩ ?_
  · rintro i A wk x ⟨hE, hi, hA, hAl, hway⟩
    have hWk := hW2.ext hE
    have hFk := hF2.ext hE
    have g5 := (hx5.ext hE).rd
    have g8 := (hx8.ext hE).rd
    have hvi := hvia i hi
    repeat' (first|refine za ?_|refine zA ?_|refine zB ?_|refine zb ?_|refine zc ?_|refine ze ?_|refine zd ?_|refine zC ?_|refine zD ?_|refine zE ?_|refine zF ?_|refine zG ?_|refine zH ?_|refine zI ?_|refine zJ ?_|refine zK ?_|refine zL ?_|refine zM ?_|refine zN ?_|refine zO ?_|refine zP ?_|refine zQ ?_|refine zR ?_|refine zS ?_|refine zU ?_|refine zV ?_|refine zW ?_|refine zt (fun hcd => ?_) (fun hcd => ?_)|refine zu (fun hcd => ?_) (fun hcd => ?_)|refine zX ?_|refine zY ?_|refine zv (fun hcd => ?_) (fun hcd => ?_)|refine zk ?_|refine zl ?_|refine zm ?_|refine zn ?_|refine zf ?_|refine zg ?_|refine zj ?_|refine zZ ?_|refine zh ?_|refine zi ?_|refine zo ?_|refine zp ?_|refine zq ?_|refine zr ?_|refine zs ?_)
    refine r_lookup (k := Qs.getD i 0) (v := .int .i64 ((Es.getD i 0 : Nat) : Int)) mp105 kt3 hFk rfl rfl hvi ?_
    by_cases h2 : 2 ≤ i
    · obtain ⟨hk, hp, hJ, hpos⟩ := hT.par i h2 hi
      have hne := hT.ne_e h2 hi
      have hGk := hG _ hk
      have hvI := hve i hi
      have hvP := hve (pr i) (by omega)
      have hot := hJ.symm.other
      repeat' (first|refine za ?_|refine zA ?_|refine zB ?_|refine zb ?_|refine zc ?_|refine ze ?_|refine zd ?_|refine zC ?_|refine zD ?_|refine zE ?_|refine zF ?_|refine zG ?_|refine zH ?_|refine zI ?_|refine zJ ?_|refine zK ?_|refine zL ?_|refine zM ?_|refine zN ?_|refine zO ?_|refine zP ?_|refine zQ ?_|refine zR ?_|refine zS ?_|refine zU ?_|refine zV ?_|refine zW ?_|refine zt (fun hcd => ?_) (fun hcd => ?_)|refine zu (fun hcd => ?_) (fun hcd => ?_)|refine zX ?_|refine zY ?_|refine zv (fun hcd => ?_) (fun hcd => ?_)|refine zk ?_|refine zl ?_|refine zm ?_|refine zn ?_|refine zf ?_|refine zg ?_|refine zj ?_|refine zZ ?_|refine zh ?_|refine zi ?_|refine zo ?_|refine zp ?_|refine zq ?_|refine zr ?_|refine zs ?_)
      refine wc_heldB (fun w' => Ext wk w') (.take 0 (.take 1 (.take 2 (.take 3 (.take 4 (.take 5 (.take 6 (.one 7 (.one 8 (.take 9 (.take 10 (.take 11 (.one 12 .done))))))))))))) (by kernel_rfl) (by kernel_rfl) (Ext.drew wk) ?_
      repeat' (first | refine whB_take (v := .int _ _) rfl rfl (fun w' hw' => rv_move_v rfl) ?_ | refine whB_takeG (v := .int _ _) rfl rfl rfl rfl (fun w' hw' => rv_move_v rfl) ?_ | refine whB_take (v := .bool _) rfl rfl (fun w' hw' => rv_move_v rfl) ?_ | refine whB_takeG (v := .bool _) rfl rfl rfl rfl (fun w' hw' => rv_move_v rfl) ?_ | refine whB_take (v := .slice _ _ _) rfl rfl (fun w' hw' => rv_move_v rfl) ?_ | refine whB_takeG (v := .slice _ _ _) rfl rfl rfl rfl (fun w' hw' => rv_move_v rfl) ?_ | refine whB_take rfl rfl (fun w' hw' => rv_move) ?_ | refine whB_takeG rfl rfl rfl rfl (fun w' hw' => rv_move) ?_ | (refine whB_take rfl rfl (fun w' hw' => rv_of rfl (fun _ h => k_eql_t rfl rfl (by omega) h) fun _ _ h => val_of h) ?_) | (refine whB_takeG rfl rfl rfl rfl (fun w' hw' => rv_of rfl (fun _ h => k_eql_t rfl rfl (by omega) h) fun _ _ h => val_of h) ?_) | (refine whB_take rfl rfl (fun w' hw' => rv_pick_tb rfl rfl) ?_) | (refine whB_takeG rfl rfl rfl rfl (fun w' hw' => rv_pick_tb rfl rfl) ?_) | (refine whB_take rfl rfl (fun w' hw' => rv_pick_fb rfl rfl) ?_) | (refine whB_takeG rfl rfl rfl rfl (fun w' hw' => rv_pick_fb rfl rfl) ?_))
      refine whB_take rfl rfl (fun w' hw' => rv_ld ct84 rfl (hx5.ext (hE.trans hw')).rd) ?_
      refine whB_take rfl rfl (fun w' hw' => rv_ld ct105 rfl (hx8.ext (hE.trans hw')).rd) ?_
      repeat' (first | refine whB_take (v := .int _ _) rfl rfl (fun w' hw' => rv_move_v rfl) ?_ | refine whB_takeG (v := .int _ _) rfl rfl rfl rfl (fun w' hw' => rv_move_v rfl) ?_ | refine whB_take (v := .bool _) rfl rfl (fun w' hw' => rv_move_v rfl) ?_ | refine whB_takeG (v := .bool _) rfl rfl rfl rfl (fun w' hw' => rv_move_v rfl) ?_ | refine whB_take (v := .slice _ _ _) rfl rfl (fun w' hw' => rv_move_v rfl) ?_ | refine whB_takeG (v := .slice _ _ _) rfl rfl rfl rfl (fun w' hw' => rv_move_v rfl) ?_ | refine whB_take rfl rfl (fun w' hw' => rv_move) ?_ | refine whB_takeG rfl rfl rfl rfl (fun w' hw' => rv_move) ?_ | (refine whB_take rfl rfl (fun w' hw' => rv_of rfl (fun _ h => k_eql_t rfl rfl (by omega) h) fun _ _ h => val_of h) ?_) | (refine whB_takeG rfl rfl rfl rfl (fun w' hw' => rv_of rfl (fun _ h => k_eql_t rfl rfl (by omega) h) fun _ _ h => val_of h) ?_) | (refine whB_take rfl rfl (fun w' hw' => rv_pick_tb rfl rfl) ?_) | (refine whB_takeG rfl rfl rfl rfl (fun w' hw' => rv_pick_tb rfl rfl) ?_) | (refine whB_take rfl rfl (fun w' hw' => rv_pick_fb rfl rfl) ?_) | (refine whB_takeG rfl rfl rfl rfl (fun w' hw' => rv_pick_fb rfl rfl) ?_))
      refine whB_take rfl rfl (fun w' hw' => rv_lookup (k := Qs.getD i 0) (v := .int .i64 ((Es.getD i 0 : Nat) : Int)) mp105 kt3 (hF2.ext (hE.trans hw')) rfl rfl hvi) ?_
      repeat' (first | refine whB_take (v := .int _ _) rfl rfl (fun w' hw' => rv_move_v rfl) ?_ | refine whB_takeG (v := .int _ _) rfl rfl rfl rfl (fun w' hw' => rv_move_v rfl) ?_ | refine whB_take (v := .bool _) rfl rfl (fun w' hw' => rv_move_v rfl) ?_ | refine whB_takeG (v := .bool _) rfl rfl rfl rfl (fun w' hw' => rv_move_v rfl) ?_ | refine whB_take (v := .slice _ _ _) rfl rfl (fun w' hw' => rv_move_v rfl) ?_ | refine whB_takeG (v := .slice _ _ _) rfl rfl rfl rfl (fun w' hw' => rv_move_v rfl) ?_ | refine whB_take rfl rfl (fun w' hw' => rv_move) ?_ | refine whB_takeG rfl rfl rfl rfl (fun w' hw' => rv_move) ?_ | (refine whB_take rfl rfl (fun w' hw' => rv_of rfl (fun _ h => k_eql_t rfl rfl (by omega) h) fun _ _ h => val_of h) ?_) | (refine whB_takeG rfl rfl rfl rfl (fun w' hw' => rv_of rfl (fun _ h => k_eql_t rfl rfl (by omega) h) fun _ _ h => val_of h) ?_) | (refine whB_take rfl rfl (fun w' hw' => rv_pick_tb rfl rfl) ?_) | (refine whB_takeG rfl rfl rfl rfl (fun w' hw' => rv_pick_tb rfl rfl) ?_) | (refine whB_take rfl rfl (fun w' hw' => rv_pick_fb rfl rfl) ?_) | (refine whB_takeG rfl rfl rfl rfl (fun w' hw' => rv_pick_fb rfl rfl) ?_))
      refine whB_one rfl rfl ?_
      have hED := hE.trans (Ext.drew wk)
      refine r_callV (cap := [.pointer (some ⟨b5, 0, none⟩), .pointer (some ⟨b8, 0, none⟩)]) rfl rfl (other_any _ b base b5 b8 bm n most whole ve q c L Sh Ld (hW2.ext hED) (viaV Qs Es) (hx5.ext hED) (hx8.ext hED) (hF2.ext hED) (Qs.getD i 0) (Es.getD i 0) hk hvi (by omega)) ?_
      rintro v' wa ⟨rfl, hEa⟩
      rw [hot]
      have hEwa := (Ext.drew wk).trans hEa
      refine ⟨hEwa, ?_⟩
      refine whB_one rfl rfl ?_
      (refine r_call_q (v := ?_) rfl ?_ ?_; rotate_left 1; focus exact has_any _ b base n most whole ve q c L Sh Ld (hW2.ext (hE.trans hEwa)) (Es.getD i 0) (Qs.getD (pr i) 0) hk)
      refine ⟨hEwa, ?_⟩
      refine whB_take rfl rfl (fun w' hw' => rv_nilQ rfl (map_isSome (pidx_isSome hqs))) ?_
      refine whB_take rfl rfl (fun w' hw' => rv_ld rfl rfl ((hW2.ext (hE.trans hw')).rdS hk)) ?_
      obtain ⟨A', hA'⟩ : ∃ A', A' = min A (hs L Sh (Es.getD i 0) (Qs.getD (pr i) 0)) := ⟨_, rfl⟩
      refine whB_take rfl rfl (fun w' hw' => rv_min (c := A') rfl rfl (by split <;> omega)) ?_
      refine whB_one rfl rfl ?_
      refine r_assign_v (v := .int .i64 A') rfl ?_
      refine ⟨hEwa, whB_done ?_⟩
      repeat' (first|refine za ?_|refine zA ?_|refine zB ?_|refine zb ?_|refine zc ?_|refine ze ?_|refine zd ?_|refine zC ?_|refine zD ?_|refine zE ?_|refine zF ?_|refine zG ?_|refine zH ?_|refine zI ?_|refine zJ ?_|refine zK ?_|refine zL ?_|refine zM ?_|refine zN ?_|refine zO ?_|refine zP ?_|refine zQ ?_|refine zR ?_|refine zS ?_|refine zU ?_|refine zV ?_|refine zW ?_|refine zt (fun hcd => ?_) (fun hcd => ?_)|refine zu (fun hcd => ?_) (fun hcd => ?_)|refine zX ?_|refine zY ?_|refine zv (fun hcd => ?_) (fun hcd => ?_)|refine zk ?_|refine zl ?_|refine zm ?_|refine zn ?_|refine zf ?_|refine zg ?_|refine zj ?_|refine zZ ?_|refine zh ?_|refine zi ?_|refine zo ?_|refine zp ?_|refine zq ?_|refine zr ?_|refine zs ?_)
      have hEb := hE.trans hEwa
      refine r_callV (cap := [.pointer (some ⟨b5, 0, none⟩), .pointer (some ⟨b8, 0, none⟩)]) rfl rfl (other_any _ b base b5 b8 bm n most whole ve q c L Sh Ld (hW2.ext hEb) (viaV Qs Es) (hx5.ext hEb) (hx8.ext hEb) (hF2.ext hEb) (Qs.getD i 0) (Es.getD i 0) hk hvi (by omega)) ?_
      rintro v' wb ⟨rfl, hEc⟩
      rw [hot]
      repeat' (first|refine za ?_|refine zA ?_|refine zB ?_|refine zb ?_|refine zc ?_|refine ze ?_|refine zd ?_|refine zC ?_|refine zD ?_|refine zE ?_|refine zF ?_|refine zG ?_|refine zH ?_|refine zI ?_|refine zJ ?_|refine zK ?_|refine zL ?_|refine zM ?_|refine zN ?_|refine zO ?_|refine zP ?_|refine zQ ?_|refine zR ?_|refine zS ?_|refine zU ?_|refine zV ?_|refine zW ?_|refine zt (fun hcd => ?_) (fun hcd => ?_)|refine zu (fun hcd => ?_) (fun hcd => ?_)|refine zX ?_|refine zY ?_|refine zv (fun hcd => ?_) (fun hcd => ?_)|refine zk ?_|refine zl ?_|refine zm ?_|refine zn ?_|refine zf ?_|refine zg ?_|refine zj ?_|refine zZ ?_|refine zh ?_|refine zi ?_|refine zo ?_|refine zp ?_|refine zq ?_|refine zr ?_|refine zs ?_)
      refine ⟨pr i, A', ⟨rfl, rfl, trivial⟩, ⟨hEb.trans hEc, by omega, by omega, by omega, fun B hB hW => hway B (by omega) (.step h2 (by omega) hW)⟩, by omega⟩
    · have he1 := hT.e01 i (by omega)
      rw [he1]
      have hWay := hway A (Int.le_refl _) (.base (by omega))
      clear hway hvi he1
      repeat' (first|refine za ?_|refine zA ?_|refine zB ?_|refine zb ?_|refine zc ?_|refine ze ?_|refine zd ?_|refine zC ?_|refine zD ?_|refine zE ?_|refine zF ?_|refine zG ?_|refine zH ?_|refine zI ?_|refine zJ ?_|refine zK ?_|refine zL ?_|refine zM ?_|refine zN ?_|refine zO ?_|refine zP ?_|refine zQ ?_|refine zR ?_|refine zS ?_|refine zU ?_|refine zV ?_|refine zW ?_|refine zt (fun hcd => ?_) (fun hcd => ?_)|refine zu (fun hcd => ?_) (fun hcd => ?_)|refine zX ?_|refine zY ?_|refine zv (fun hcd => ?_) (fun hcd => ?_)|refine zk ?_|refine zl ?_|refine zm ?_|refine zn ?_|refine zf ?_|refine zg ?_|refine zj ?_|refine zZ ?_|refine zh ?_|refine zi ?_|refine zo ?_|refine zp ?_|refine zq ?_|refine zr ?_|refine zs ?_)
      have hEd := hE.trans (Ext.drew wk)
      have hWd := hW2.ext hEd
      have gd5 := (hx5.ext hEd).rd
      obtain ⟨r0, r1, r2, r3, r4⟩ := hWd.rds
      have hvj := hve j hj
      have hld := hWd.ld (v := Qs.getD j 0) (by omega)
      have hlb := hS.loadI (v := Qs.getD j 0) (by omega)
      have hl0 : 0 ≤ Ld.getD (Qs.getD j 0).toNat 0 := by
        rw [hlb.1]; exact ldE_nonneg hS.pos
      (refine wc_drawn 11 (by kernel_rfl) (by kernel_rfl) ?_; simp only [List.take_succ_cons, List.take_zero, List.drop_succ_cons, List.drop_zero])
      repeat' (first|refine za ?_|refine zA ?_|refine zB ?_|refine zb ?_|refine zc ?_|refine ze ?_|refine zd ?_|refine zC ?_|refine zD ?_|refine zE ?_|refine zF ?_|refine zG ?_|refine zH ?_|refine zI ?_|refine zJ ?_|refine zK ?_|refine zL ?_|refine zM ?_|refine zN ?_|refine zO ?_|refine zP ?_|refine zQ ?_|refine zR ?_|refine zS ?_|refine zU ?_|refine zV ?_|refine zW ?_|refine zt (fun hcd => ?_) (fun hcd => ?_)|refine zu (fun hcd => ?_) (fun hcd => ?_)|refine zX ?_|refine zY ?_|refine zv (fun hcd => ?_) (fun hcd => ?_)|refine zk ?_|refine zl ?_|refine zm ?_|refine zn ?_|refine zf ?_|refine zg ?_|refine zj ?_|refine zZ ?_|refine zh ?_|refine zi ?_|refine zo ?_|refine zp ?_|refine zq ?_|refine zr ?_|refine zs ?_)
      refine r_faE (o' := 5) fo89_4 rfl rfl ?_
      repeat' (first|refine za ?_|refine zA ?_|refine zB ?_|refine zb ?_|refine zc ?_|refine ze ?_|refine zd ?_|refine zC ?_|refine zD ?_|refine zE ?_|refine zF ?_|refine zG ?_|refine zH ?_|refine zI ?_|refine zJ ?_|refine zK ?_|refine zL ?_|refine zM ?_|refine zN ?_|refine zO ?_|refine zP ?_|refine zQ ?_|refine zR ?_|refine zS ?_|refine zU ?_|refine zV ?_|refine zW ?_|refine zt (fun hcd => ?_) (fun hcd => ?_)|refine zu (fun hcd => ?_) (fun hcd => ?_)|refine zX ?_|refine zY ?_|refine zv (fun hcd => ?_) (fun hcd => ?_)|refine zk ?_|refine zl ?_|refine zm ?_|refine zn ?_|refine zf ?_|refine zg ?_|refine zj ?_|refine zZ ?_|refine zh ?_|refine zi ?_|refine zo ?_|refine zp ?_|refine zq ?_|refine zr ?_|refine zs ?_)
      refine r_idxE ar75 rfl rfl (by omega) (by omega) ?_
      repeat' (first|refine za ?_|refine zA ?_|refine zB ?_|refine zb ?_|refine zc ?_|refine ze ?_|refine zd ?_|refine zC ?_|refine zD ?_|refine zE ?_|refine zF ?_|refine zG ?_|refine zH ?_|refine zI ?_|refine zJ ?_|refine zK ?_|refine zL ?_|refine zM ?_|refine zN ?_|refine zO ?_|refine zP ?_|refine zQ ?_|refine zR ?_|refine zS ?_|refine zU ?_|refine zV ?_|refine zW ?_|refine zt (fun hcd => ?_) (fun hcd => ?_)|refine zu (fun hcd => ?_) (fun hcd => ?_)|refine zX ?_|refine zY ?_|refine zv (fun hcd => ?_) (fun hcd => ?_)|refine zk ?_|refine zl ?_|refine zm ?_|refine zn ?_|refine zf ?_|refine zg ?_|refine zj ?_|refine zZ ?_|refine zh ?_|refine zi ?_|refine zo ?_|refine zp ?_|refine zq ?_|refine zr ?_|refine zs ?_)
      refine r_faE (o' := 5) fo89_4 rfl rfl ?_
      repeat' (first|refine za ?_|refine zA ?_|refine zB ?_|refine zb ?_|refine zc ?_|refine ze ?_|refine zd ?_|refine zC ?_|refine zD ?_|refine zE ?_|refine zF ?_|refine zG ?_|refine zH ?_|refine zI ?_|refine zJ ?_|refine zK ?_|refine zL ?_|refine zM ?_|refine zN ?_|refine zO ?_|refine zP ?_|refine zQ ?_|refine zR ?_|refine zS ?_|refine zU ?_|refine zV ?_|refine zW ?_|refine zt (fun hcd => ?_) (fun hcd => ?_)|refine zu (fun hcd => ?_) (fun hcd => ?_)|refine zX ?_|refine zY ?_|refine zv (fun hcd => ?_) (fun hcd => ?_)|refine zk ?_|refine zl ?_|refine zm ?_|refine zn ?_|refine zf ?_|refine zg ?_|refine zj ?_|refine zZ ?_|refine zh ?_|refine zi ?_|refine zo ?_|refine zp ?_|refine zq ?_|refine zr ?_|refine zs ?_)
      refine r_idxE ar75 rfl rfl (by omega) (by omega) ?_
      repeat' (first|refine za ?_|refine zA ?_|refine zB ?_|refine zb ?_|refine zc ?_|refine ze ?_|refine zd ?_|refine zC ?_|refine zD ?_|refine zE ?_|refine zF ?_|refine zG ?_|refine zH ?_|refine zI ?_|refine zJ ?_|refine zK ?_|refine zL ?_|refine zM ?_|refine zN ?_|refine zO ?_|refine zP ?_|refine zQ ?_|refine zR ?_|refine zS ?_|refine zU ?_|refine zV ?_|refine zW ?_|refine zt (fun hcd => ?_) (fun hcd => ?_)|refine zu (fun hcd => ?_) (fun hcd => ?_)|refine zX ?_|refine zY ?_|refine zv (fun hcd => ?_) (fun hcd => ?_)|refine zk ?_|refine zl ?_|refine zm ?_|refine zn ?_|refine zf ?_|refine zg ?_|refine zj ?_|refine zZ ?_|refine zh ?_|refine zi ?_|refine zo ?_|refine zp ?_|refine zq ?_|refine zr ?_|refine zs ?_)
      refine r_st_load hWd (v := Qs.getD j 0) (by omega) rfl rfl fun w3 hW3 hC3 hs3 => ?_
      obtain ⟨Ld1, hLd1⟩ : ∃ Ld1, Ld1 = Ld.set (Qs.getD j 0).toNat (Ld.getD (Qs.getD j 0).toNat 0 + A) := ⟨_, rfl⟩
      rw [← hLd1] at hW3
      have hszk := hE.size
      have h5lt := hx5.lt
      have h8lt := hx8.lt
      have hlt5 : w.heap.size ≤ b5 := by omega
      have hlt8 : w.heap.size ≤ b8 := by omega
      have hSl : Sh.length = L.length := h.len
      have hnb : ∀ g, (Value.slice q L.length c).ownBlock = some g → g ≠ b ∧ g < w.heap.size ∧ g ≠ bm := fun g hg => by
        rw [← hSl] at hg
        have := h.ne hg
        exact ⟨this.2.1, this.2.2, fun e => hbm.2 (e ▸ hg)⟩
      have hC03 : Ch (fun k => k = b ∨ (Value.slice q L.length c).ownBlock = some k) w w3 := Ch.trans' (hE12.trans hEd).ch hC3 fun k hk e => .inl e
      have hx53 := (hx5.ext hEd).keep hC3 (by omega)
      have hx83 := (hx8.ext hEd).keep hC3 (by omega)
      have hF3 := (hF2.ext hEd).keep hC3 hbm.1
      have hMv0 : Mv L Sh Sh Ld1 e Qs Es A j := Mv.start hS fun v hv => by
        have hz : (Qs.getD j 0).toNat < Ld.length := by rw [hS.ldlen]; omega
        rw [hLd1, List.getD_eq_getElem?_getD, List.getElem?_set]
        by_cases c1 : (Qs.getD j 0).toNat = v
        · subst c1
          rw [if_pos rfl, if_pos hz, if_pos (by omega)]; rfl
        · rw [if_neg c1, if_neg (by omega), ← List.getD_eq_getElem?_getD]; omega
      have hLd1l : Ld1.length = 16 := by rw [hLd1, List.length_set]; exact hS.ldlen
      have hLd1le : ∀ v : Nat, v < 16 → Ld1.getD v 0 ≤ most := fun v hv => by
        have hz : (Qs.getD j 0).toNat < Ld.length := by rw [hS.ldlen]; omega
        have := hS.le v hv
        rw [hLd1, List.getD_eq_getElem?_getD, List.getElem?_set]
        by_cases c1 : (Qs.getD j 0).toNat = v
        · rw [if_pos c1, if_pos hz]; show Ld.getD (Qs.getD j 0).toNat 0 + A ≤ most; omega
        · rw [if_neg c1, ← List.getD_eq_getElem?_getD]; exact this
      clear hLd1
      repeat' (first|refine za ?_|refine zA ?_|refine zB ?_|refine zb ?_|refine zc ?_|refine ze ?_|refine zd ?_|refine zC ?_|refine zD ?_|refine zE ?_|refine zF ?_|refine zG ?_|refine zH ?_|refine zI ?_|refine zJ ?_|refine zK ?_|refine zL ?_|refine zM ?_|refine zN ?_|refine zO ?_|refine zP ?_|refine zQ ?_|refine zR ?_|refine zS ?_|refine zU ?_|refine zV ?_|refine zW ?_|refine zt (fun hcd => ?_) (fun hcd => ?_)|refine zu (fun hcd => ?_) (fun hcd => ?_)|refine zX ?_|refine zY ?_|refine zv (fun hcd => ?_) (fun hcd => ?_)|refine zk ?_|refine zl ?_|refine zm ?_|refine zn ?_|refine zf ?_|refine zg ?_|refine zj ?_|refine zZ ?_|refine zh ?_|refine zi ?_|refine zo ?_|refine zp ?_|refine zq ?_|refine zr ?_|refine zs ?_)
      refine wc_loop2 [1, 4, 5, 8, 10] (fun (i : Nat) (_ : List (Int × Int)) => [(12, .int .i64 (Qs.getD i 0))]) (fun i S1 wk => i < Qs.length ∧ ShW wk b base n most whole ve q c L S1 Ld1 ∧ Mv L Sh S1 Ld1 e Qs Es A i ∧ Way L Sh Qs Es pr A i ∧ Ch (fun k => k = b ∨ (Value.slice q L.length c).ownBlock = some k) w wk ∧
          Box wk b5 84 (.pointer (some ⟨b, 0, none⟩)) ∧ Box wk b8 105 (.map (some bm)) ∧ MapF encI wk bm (viaV Qs Es)) (fun i _ => i) j Sh rfl ⟨rfl, trivial⟩ ⟨hj, hW3, hMv0, hWay, hC03, hx53, hx83, hF3⟩ ?_
      rintro i S1 wz x ⟨hi, hWz, hMz, hWay, hCz, hz5, hz8, hFz⟩
      have hvi := hvia i hi
      have hvI := hve i hi
      have g5 := hz5.rd
      have g8 := hz8.rd
      have hS1l : S1.length = L.length := hMz.len
      by_cases h2 : 2 ≤ i
      · obtain ⟨hk, hp, hJ, hpos⟩ := hT.par i h2 hi
        have hne := hT.ne_e h2 hi
        have hGk := hG _ hk
        have hvP := hve (pr i) (by omega)
        have hot := hJ.symm.other
        have hrd := hWz.rdS (k := Es.getD i 0) (v := Qs.getD i 0) hk
        have hp1 := hMz.pos _ hk
        have hb1 := hs_le_sm (L := L) (v := Qs.getD i 0) hp1
        have hb2 := hs_nonneg (L := L) (v := Qs.getD i 0) hp1
        have hb3 := hS.sum _ hk
        rw [← hMz.sum _ hk] at hb3
        repeat' (first|refine za ?_|refine zA ?_|refine zB ?_|refine zb ?_|refine zc ?_|refine ze ?_|refine zd ?_|refine zC ?_|refine zD ?_|refine zE ?_|refine zF ?_|refine zG ?_|refine zH ?_|refine zI ?_|refine zJ ?_|refine zK ?_|refine zL ?_|refine zM ?_|refine zN ?_|refine zO ?_|refine zP ?_|refine zQ ?_|refine zR ?_|refine zS ?_|refine zU ?_|refine zV ?_|refine zW ?_|refine zt (fun hcd => ?_) (fun hcd => ?_)|refine zu (fun hcd => ?_) (fun hcd => ?_)|refine zX ?_|refine zY ?_|refine zv (fun hcd => ?_) (fun hcd => ?_)|refine zk ?_|refine zl ?_|refine zm ?_|refine zn ?_|refine zf ?_|refine zg ?_|refine zj ?_|refine zZ ?_|refine zh ?_|refine zi ?_|refine zo ?_|refine zp ?_|refine zq ?_|refine zr ?_|refine zs ?_)
        refine r_lookup (k := Qs.getD i 0) (v := .int .i64 ((Es.getD i 0 : Nat) : Int)) mp105 kt3 hFz rfl rfl hvi ?_
        repeat' (first|refine za ?_|refine zA ?_|refine zB ?_|refine zb ?_|refine zc ?_|refine ze ?_|refine zd ?_|refine zC ?_|refine zD ?_|refine zE ?_|refine zF ?_|refine zG ?_|refine zH ?_|refine zI ?_|refine zJ ?_|refine zK ?_|refine zL ?_|refine zM ?_|refine zN ?_|refine zO ?_|refine zP ?_|refine zQ ?_|refine zR ?_|refine zS ?_|refine zU ?_|refine zV ?_|refine zW ?_|refine zt (fun hcd => ?_) (fun hcd => ?_)|refine zu (fun hcd => ?_) (fun hcd => ?_)|refine zX ?_|refine zY ?_|refine zv (fun hcd => ?_) (fun hcd => ?_)|refine zk ?_|refine zl ?_|refine zm ?_|refine zn ?_|refine zf ?_|refine zg ?_|refine zj ?_|refine zZ ?_|refine zh ?_|refine zi ?_|refine zo ?_|refine zp ?_|refine zq ?_|refine zr ?_|refine zs ?_)
        (refine r_call_q (v := ?_) rfl ?_ ?_; rotate_left 1; focus exact has_any _ b base n most whole ve q c L S1 Ld1 hWz (Es.getD i 0) (Qs.getD i 0) hk)
        repeat' (first|refine za ?_|refine zA ?_|refine zB ?_|refine zb ?_|refine zc ?_|refine ze ?_|refine zd ?_|refine zC ?_|refine zD ?_|refine zE ?_|refine zF ?_|refine zG ?_|refine zH ?_|refine zI ?_|refine zJ ?_|refine zK ?_|refine zL ?_|refine zM ?_|refine zN ?_|refine zO ?_|refine zP ?_|refine zQ ?_|refine zR ?_|refine zS ?_|refine zU ?_|refine zV ?_|refine zW ?_|refine zt (fun hcd => ?_) (fun hcd => ?_)|refine zu (fun hcd => ?_) (fun hcd => ?_)|refine zX ?_|refine zY ?_|refine zv (fun hcd => ?_) (fun hcd => ?_)|refine zk ?_|refine zl ?_|refine zm ?_|refine zn ?_|refine zf ?_|refine zg ?_|refine zj ?_|refine zZ ?_|refine zh ?_|refine zi ?_|refine zo ?_|refine zp ?_|refine zq ?_|refine zr ?_|refine zs ?_)
        refine r_nilQ rfl (map_isSome (pidx_isSome hqs)) ?_
        repeat' (first|refine za ?_|refine zA ?_|refine zB ?_|refine zb ?_|refine zc ?_|refine ze ?_|refine zd ?_|refine zC ?_|refine zD ?_|refine zE ?_|refine zF ?_|refine zG ?_|refine zH ?_|refine zI ?_|refine zJ ?_|refine zK ?_|refine zL ?_|refine zM ?_|refine zN ?_|refine zO ?_|refine zP ?_|refine zQ ?_|refine zR ?_|refine zS ?_|refine zU ?_|refine zV ?_|refine zW ?_|refine zt (fun hcd => ?_) (fun hcd => ?_)|refine zu (fun hcd => ?_) (fun hcd => ?_)|refine zX ?_|refine zY ?_|refine zv (fun hcd => ?_) (fun hcd => ?_)|refine zk ?_|refine zl ?_|refine zm ?_|refine zn ?_|refine zf ?_|refine zg ?_|refine zj ?_|refine zZ ?_|refine zh ?_|refine zi ?_|refine zo ?_|refine zp ?_|refine zq ?_|refine zr ?_|refine zs ?_)
        refine r_nilQ rfl (map_isSome (pidx_isSome hqs)) ?_
        repeat' (first|refine za ?_|refine zA ?_|refine zB ?_|refine zb ?_|refine zc ?_|refine ze ?_|refine zd ?_|refine zC ?_|refine zD ?_|refine zE ?_|refine zF ?_|refine zG ?_|refine zH ?_|refine zI ?_|refine zJ ?_|refine zK ?_|refine zL ?_|refine zM ?_|refine zN ?_|refine zO ?_|refine zP ?_|refine zQ ?_|refine zR ?_|refine zS ?_|refine zU ?_|refine zV ?_|refine zW ?_|refine zt (fun hcd => ?_) (fun hcd => ?_)|refine zu (fun hcd => ?_) (fun hcd => ?_)|refine zX ?_|refine zY ?_|refine zv (fun hcd => ?_) (fun hcd => ?_)|refine zk ?_|refine zl ?_|refine zm ?_|refine zn ?_|refine zf ?_|refine zg ?_|refine zj ?_|refine zZ ?_|refine zh ?_|refine zi ?_|refine zo ?_|refine zp ?_|refine zq ?_|refine zr ?_|refine zs ?_)
        refine r_st_has hWz rfl rfl hk fun w4 hW4 hC4 hs4 => ?_
        rw [hS1l] at hC4
        have hC04 := Ch.trans' (S := fun k => k = b ∨ (Value.slice q L.length c).ownBlock = some k) hCz hC4 fun k hk e => .inr e
        have hz5 := hz5.keep hC4 fun e => by have := (hnb _ e).2.1; omega
        have hz8 := hz8.keep hC4 fun e => by have := (hnb _ e).2.1; omega
        have hFz := hFz.keep hC4 fun e => (hnb _ e).2.2 rfl
        have g5 := hz5.rd
        have g8 := hz8.rd
        repeat' (first|refine za ?_|refine zA ?_|refine zB ?_|refine zb ?_|refine zc ?_|refine ze ?_|refine zd ?_|refine zC ?_|refine zD ?_|refine zE ?_|refine zF ?_|refine zG ?_|refine zH ?_|refine zI ?_|refine zJ ?_|refine zK ?_|refine zL ?_|refine zM ?_|refine zN ?_|refine zO ?_|refine zP ?_|refine zQ ?_|refine zR ?_|refine zS ?_|refine zU ?_|refine zV ?_|refine zW ?_|refine zt (fun hcd => ?_) (fun hcd => ?_)|refine zu (fun hcd => ?_) (fun hcd => ?_)|refine zX ?_|refine zY ?_|refine zv (fun hcd => ?_) (fun hcd => ?_)|refine zk ?_|refine zl ?_|refine zm ?_|refine zn ?_|refine zf ?_|refine zg ?_|refine zj ?_|refine zZ ?_|refine zh ?_|refine zi ?_|refine zo ?_|refine zp ?_|refine zq ?_|refine zr ?_|refine zs ?_)
        refine r_lookup (k := Qs.getD i 0) (v := .int .i64 ((Es.getD i 0 : Nat) : Int)) mp105 kt3 hFz rfl rfl hvi ?_
        repeat' (first|refine za ?_|refine zA ?_|refine zB ?_|refine zb ?_|refine zc ?_|refine ze ?_|refine zd ?_|refine zC ?_|refine zD ?_|refine zE ?_|refine zF ?_|refine zG ?_|refine zH ?_|refine zI ?_|refine zJ ?_|refine zK ?_|refine zL ?_|refine zM ?_|refine zN ?_|refine zO ?_|refine zP ?_|refine zQ ?_|refine zR ?_|refine zS ?_|refine zU ?_|refine zV ?_|refine zW ?_|refine zt (fun hcd => ?_) (fun hcd => ?_)|refine zu (fun hcd => ?_) (fun hcd => ?_)|refine zX ?_|refine zY ?_|refine zv (fun hcd => ?_) (fun hcd => ?_)|refine zk ?_|refine zl ?_|refine zm ?_|refine zn ?_|refine zf ?_|refine zg ?_|refine zj ?_|refine zZ ?_|refine zh ?_|refine zi ?_|refine zo ?_|refine zp ?_|refine zq ?_|refine zr ?_|refine zs ?_)
        obtain ⟨hle, hWay'⟩ : A ≤ hs L Sh (Es.getD i 0) (Qs.getD (pr i) 0) ∧ Way L Sh Qs Es pr A (pr i) := by
          cases hWay with
          | base h => omega
          | step _ h1 h3 => exact ⟨h1, h3⟩
        have hst := hMz.step hT (fun k hk => by have := hG k hk; omega) h2 hi (by omega) hle
        generalize hS2e : setS L S1 (Es.getD i 0) (Qs.getD i 0) (hs L S1 (Es.getD i 0) (Qs.getD i 0) + A) = S2 at *
        have hS2l : S2.length = L.length := by rw [← hS2e, setS_length, hS1l]
        have hu2 : hs L S2 (Es.getD i 0) (Qs.getD (pr i) 0) = hs L Sh (Es.getD i 0) (Qs.getD (pr i) 0) := by
          rw [← hS2e, hs_other (by rw [hS1l]; exact hk) hJ.symm (hT.jne h2 hi)]
          unfold hs; rw [hMz.same i (Nat.le_refl _)]
        have hb4 := hs_le_sm (L := L) (v := Qs.getD (pr i) 0) (hS.pos _ hk)
        have hb5 := hS.sum _ hk
        refine wc_heldB (fun w' => Ch (fun g => (Value.slice q L.length c).ownBlock = some g) w4 w') (.take 0 (.take 1 (.take 2 (.take 3 (.take 4 (.take 5 (.take 10 (.one 6 (.one 7 (.one 8 (.one 9 (.one 11 (.one 12 (.one 13 .done)))))))))))))) (by kernel_rfl) (by kernel_rfl) (Ext.drew w4).ch ?_
        have hk5 := fun w' (hw' : Ch (fun g => (Value.slice q L.length c).ownBlock = some g) w4 w') => hz5.keep hw' fun e => by have := (hnb _ e).2.1; omega
        have hk8 := fun w' (hw' : Ch (fun g => (Value.slice q L.length c).ownBlock = some g) w4 w') => hz8.keep hw' fun e => by have := (hnb _ e).2.1; omega
        have hkF := fun w' (hw' : Ch (fun g => (Value.slice q L.length c).ownBlock = some g) w4 w') => hFz.keep hw' fun e => (hnb _ e).2.2 rfl
        refine whB_take rfl rfl (fun w' hw' => rv_ld ct84 rfl (hk5 w' hw').rd) ?_
        refine whB_take rfl rfl (fun w' hw' => rv_ld ct105 rfl (hk8 w' hw').rd) ?_
        repeat' (first | refine whB_take (v := .int _ _) rfl rfl (fun w' hw' => rv_move_v rfl) ?_ | refine whB_takeG (v := .int _ _) rfl rfl rfl rfl (fun w' hw' => rv_move_v rfl) ?_ | refine whB_take (v := .bool _) rfl rfl (fun w' hw' => rv_move_v rfl) ?_ | refine whB_takeG (v := .bool _) rfl rfl rfl rfl (fun w' hw' => rv_move_v rfl) ?_ | refine whB_take (v := .slice _ _ _) rfl rfl (fun w' hw' => rv_move_v rfl) ?_ | refine whB_takeG (v := .slice _ _ _) rfl rfl rfl rfl (fun w' hw' => rv_move_v rfl) ?_ | refine whB_take rfl rfl (fun w' hw' => rv_move) ?_ | refine whB_takeG rfl rfl rfl rfl (fun w' hw' => rv_move) ?_ | (refine whB_take rfl rfl (fun w' hw' => rv_of rfl (fun _ h => k_eql_t rfl rfl (by omega) h) fun _ _ h => val_of h) ?_) | (refine whB_takeG rfl rfl rfl rfl (fun w' hw' => rv_of rfl (fun _ h => k_eql_t rfl rfl (by omega) h) fun _ _ h => val_of h) ?_) | (refine whB_take rfl rfl (fun w' hw' => rv_pick_tb rfl rfl) ?_) | (refine whB_takeG rfl rfl rfl rfl (fun w' hw' => rv_pick_tb rfl rfl) ?_) | (refine whB_take rfl rfl (fun w' hw' => rv_pick_fb rfl rfl) ?_) | (refine whB_takeG rfl rfl rfl rfl (fun w' hw' => rv_pick_fb rfl rfl) ?_))
        refine whB_take rfl rfl (fun w' hw' => rv_lookup (k := Qs.getD i 0) (v := .int .i64 ((Es.getD i 0 : Nat) : Int)) mp105 kt3 (hkF w' hw') rfl rfl hvi) ?_
        repeat' (first | refine whB_take (v := .int _ _) rfl rfl (fun w' hw' => rv_move_v rfl) ?_ | refine whB_takeG (v := .int _ _) rfl rfl rfl rfl (fun w' hw' => rv_move_v rfl) ?_ | refine whB_take (v := .bool _) rfl rfl (fun w' hw' => rv_move_v rfl) ?_ | refine whB_takeG (v := .bool _) rfl rfl rfl rfl (fun w' hw' => rv_move_v rfl) ?_ | refine whB_take (v := .slice _ _ _) rfl rfl (fun w' hw' => rv_move_v rfl) ?_ | refine whB_takeG (v := .slice _ _ _) rfl rfl rfl rfl (fun w' hw' => rv_move_v rfl) ?_ | refine whB_take rfl rfl (fun w' hw' => rv_move) ?_ | refine whB_takeG rfl rfl rfl rfl (fun w' hw' => rv_move) ?_ | (refine whB_take rfl rfl (fun w' hw' => rv_of rfl (fun _ h => k_eql_t rfl rfl (by omega) h) fun _ _ h => val_of h) ?_) | (refine whB_takeG rfl rfl rfl rfl (fun w' hw' => rv_of rfl (fun _ h => k_eql_t rfl rfl (by omega) h) fun _ _ h => val_of h) ?_) | (refine whB_take rfl rfl (fun w' hw' => rv_pick_tb rfl rfl) ?_) | (refine whB_takeG rfl rfl rfl rfl (fun w' hw' => rv_pick_tb rfl rfl) ?_) | (refine whB_take rfl rfl (fun w' hw' => rv_pick_fb rfl rfl) ?_) | (refine whB_takeG rfl rfl rfl rfl (fun w' hw' => rv_pick_fb rfl rfl) ?_))
        have hD4 := Ext.drew w4
        refine whB_one rfl rfl ?_
        refine r_callV (cap := [.pointer (some ⟨b5, 0, none⟩), .pointer (some ⟨b8, 0, none⟩)]) rfl rfl (other_any _ b base b5 b8 bm n most whole ve q c L S2 Ld1 (hW4.ext hD4) (viaV Qs Es) (hz5.ext hD4) (hz8.ext hD4) (hFz.ext hD4) (Qs.getD i 0) (Es.getD i 0) hk hvi (by omega)) ?_
        rintro v' wa ⟨rfl, hEa⟩
        rw [hot]
        have hE4a := hD4.trans hEa
        refine ⟨hE4a.ch, ?_⟩
        refine whB_one rfl rfl ?_
        (refine r_call_q (v := ?_) rfl ?_ ?_; rotate_left 1; focus exact has_any _ b base n most whole ve q c L S2 Ld1 (hW4.ext hE4a) (Es.getD i 0) (Qs.getD (pr i) 0) hk)
        refine ⟨hE4a.ch, ?_⟩
        refine whB_one rfl rfl ?_
        refine r_nilQ rfl (map_isSome (pidx_isSome hqs)) ?_
        refine ⟨hE4a.ch, ?_⟩
        refine whB_one rfl rfl ?_
        refine r_ld rfl rfl ((hW4.ext hE4a).rdS hk) ?_
        refine ⟨hE4a.ch, ?_⟩
        refine whB_one rfl rfl ?_
        refine r_sub_in rfl rfl (by omega) ?_
        refine ⟨hE4a.ch, ?_⟩
        refine whB_one rfl rfl ?_
        refine r_nilQ rfl (map_isSome (pidx_isSome hqs)) ?_
        refine ⟨hE4a.ch, ?_⟩
        refine whB_one rfl rfl ?_
        refine r_st_has (hW4.ext hE4a) rfl rfl hk fun w5 hW5 hC5 hs5 => ?_
        rw [hS2l] at hC5
        have hC45 := Ch.trans' (S := fun g => (Value.slice q L.length c).ownBlock = some g) hE4a.ch hC5 fun k hk e => e
        refine ⟨hC45, whB_done ?_⟩
        repeat' (first|refine za ?_|refine zA ?_|refine zB ?_|refine zb ?_|refine zc ?_|refine ze ?_|refine zd ?_|refine zC ?_|refine zD ?_|refine zE ?_|refine zF ?_|refine zG ?_|refine zH ?_|refine zI ?_|refine zJ ?_|refine zK ?_|refine zL ?_|refine zM ?_|refine zN ?_|refine zO ?_|refine zP ?_|refine zQ ?_|refine zR ?_|refine zS ?_|refine zU ?_|refine zV ?_|refine zW ?_|refine zt (fun hcd => ?_) (fun hcd => ?_)|refine zu (fun hcd => ?_) (fun hcd => ?_)|refine zX ?_|refine zY ?_|refine zv (fun hcd => ?_) (fun hcd => ?_)|refine zk ?_|refine zl ?_|refine zm ?_|refine zn ?_|refine zf ?_|refine zg ?_|refine zj ?_|refine zZ ?_|refine zh ?_|refine zi ?_|refine zo ?_|refine zp ?_|refine zq ?_|refine zr ?_|refine zs ?_)
        refine r_callV (cap := [.pointer (some ⟨b5, 0, none⟩), .pointer (some ⟨b8, 0, none⟩)]) rfl rfl (other_any _ b base b5 b8 bm n most whole ve q c L _ Ld1 hW5 (viaV Qs Es) (hk5 _ hC45) (hk8 _ hC45) (hkF _ hC45) (Qs.getD i 0) (Es.getD i 0) hk hvi (by omega)) ?_
        rintro v' w6 ⟨rfl, hE6⟩
        rw [hot]
        repeat' (first|refine za ?_|refine zA ?_|refine zB ?_|refine zb ?_|refine zc ?_|refine ze ?_|refine zd ?_|refine zC ?_|refine zD ?_|refine zE ?_|refine zF ?_|refine zG ?_|refine zH ?_|refine zI ?_|refine zJ ?_|refine zK ?_|refine zL ?_|refine zM ?_|refine zN ?_|refine zO ?_|refine zP ?_|refine zQ ?_|refine zR ?_|refine zS ?_|refine zU ?_|refine zV ?_|refine zW ?_|refine zt (fun hcd => ?_) (fun hcd => ?_)|refine zu (fun hcd => ?_) (fun hcd => ?_)|refine zX ?_|refine zY ?_|refine zv (fun hcd => ?_) (fun hcd => ?_)|refine zk ?_|refine zl ?_|refine zm ?_|refine zn ?_|refine zf ?_|refine zg ?_|refine zj ?_|refine zZ ?_|refine zh ?_|refine zi ?_|refine zo ?_|refine zp ?_|refine zq ?_|refine zr ?_|refine zs ?_)
        refine ⟨pr i, _, ⟨rfl, trivial⟩, ⟨by omega, hW5.ext hE6, hst, hWay', ?_, (hk5 _ hC45).ext hE6, (hk8 _ hC45).ext hE6, (hkF _ hC45).ext hE6⟩, by omega⟩
        exact (Ch.trans' (S := fun k => k = b ∨ (Value.slice q L.length c).ownBlock = some k) hC04 hC45 fun k hk e => .inr e).trans hE6.ch
      · have hw' := hT.e01 i (by omega)
        rw [hw'] at hvi
        have hrd := hWz.rdS (k := e) (v := Qs.getD i 0) he
        have hp1 := hMz.pos _ he
        have hb1 := hs_le_sm (L := L) (v := Qs.getD i 0) hp1
        have hb2 := hs_nonneg (L := L) (v := Qs.getD i 0) hp1
        have hb3 := hS.sum _ he
        rw [← hMz.sum _ he] at hb3
        repeat' (first|refine za ?_|refine zA ?_|refine zB ?_|refine zb ?_|refine zc ?_|refine ze ?_|refine zd ?_|refine zC ?_|refine zD ?_|refine zE ?_|refine zF ?_|refine zG ?_|refine zH ?_|refine zI ?_|refine zJ ?_|refine zK ?_|refine zL ?_|refine zM ?_|refine zN ?_|refine zO ?_|refine zP ?_|refine zQ ?_|refine zR ?_|refine zS ?_|refine zU ?_|refine zV ?_|refine zW ?_|refine zt (fun hcd => ?_) (fun hcd => ?_)|refine zu (fun hcd => ?_) (fun hcd => ?_)|refine zX ?_|refine zY ?_|refine zv (fun hcd => ?_) (fun hcd => ?_)|refine zk ?_|refine zl ?_|refine zm ?_|refine zn ?_|refine zf ?_|refine zg ?_|refine zj ?_|refine zZ ?_|refine zh ?_|refine zi ?_|refine zo ?_|refine zp ?_|refine zq ?_|refine zr ?_|refine zs ?_)
        refine r_lookup (k := Qs.getD i 0) (v := .int .i64 e) mp105 kt3 hFz rfl rfl hvi ?_
        repeat' (first|refine za ?_|refine zA ?_|refine zB ?_|refine zb ?_|refine zc ?_|refine ze ?_|refine zd ?_|refine zC ?_|refine zD ?_|refine zE ?_|refine zF ?_|refine zG ?_|refine zH ?_|refine zI ?_|refine zJ ?_|refine zK ?_|refine zL ?_|refine zM ?_|refine zN ?_|refine zO ?_|refine zP ?_|refine zQ ?_|refine zR ?_|refine zS ?_|refine zU ?_|refine zV ?_|refine zW ?_|refine zt (fun hcd => ?_) (fun hcd => ?_)|refine zu (fun hcd => ?_) (fun hcd => ?_)|refine zX ?_|refine zY ?_|refine zv (fun hcd => ?_) (fun hcd => ?_)|refine zk ?_|refine zl ?_|refine zm ?_|refine zn ?_|refine zf ?_|refine zg ?_|refine zj ?_|refine zZ ?_|refine zh ?_|refine zi ?_|refine zo ?_|refine zp ?_|refine zq ?_|refine zr ?_|refine zs ?_)
        (refine r_call_q (v := ?_) rfl ?_ ?_; rotate_left 1; focus exact has_any _ b base n most whole ve q c L S1 Ld1 hWz e (Qs.getD i 0) he)
        repeat' (first|refine za ?_|refine zA ?_|refine zB ?_|refine zb ?_|refine zc ?_|refine ze ?_|refine zd ?_|refine zC ?_|refine zD ?_|refine zE ?_|refine zF ?_|refine zG ?_|refine zH ?_|refine zI ?_|refine zJ ?_|refine zK ?_|refine zL ?_|refine zM ?_|refine zN ?_|refine zO ?_|refine zP ?_|refine zQ ?_|refine zR ?_|refine zS ?_|refine zU ?_|refine zV ?_|refine zW ?_|refine zt (fun hcd => ?_) (fun hcd => ?_)|refine zu (fun hcd => ?_) (fun hcd => ?_)|refine zX ?_|refine zY ?_|refine zv (fun hcd => ?_) (fun hcd => ?_)|refine zk ?_|refine zl ?_|refine zm ?_|refine zn ?_|refine zf ?_|refine zg ?_|refine zj ?_|refine zZ ?_|refine zh ?_|refine zi ?_|refine zo ?_|refine zp ?_|refine zq ?_|refine zr ?_|refine zs ?_)
        refine r_nilQ rfl (map_isSome (pidx_isSome hqs)) ?_
        repeat' (first|refine za ?_|refine zA ?_|refine zB ?_|refine zb ?_|refine zc ?_|refine ze ?_|refine zd ?_|refine zC ?_|refine zD ?_|refine zE ?_|refine zF ?_|refine zG ?_|refine zH ?_|refine zI ?_|refine zJ ?_|refine zK ?_|refine zL ?_|refine zM ?_|refine zN ?_|refine zO ?_|refine zP ?_|refine zQ ?_|refine zR ?_|refine zS ?_|refine zU ?_|refine zV ?_|refine zW ?_|refine zt (fun hcd => ?_) (fun hcd => ?_)|refine zu (fun hcd => ?_) (fun hcd => ?_)|refine zX ?_|refine zY ?_|refine zv (fun hcd => ?_) (fun hcd => ?_)|refine zk ?_|refine zl ?_|refine zm ?_|refine zn ?_|refine zf ?_|refine zg ?_|refine zj ?_|refine zZ ?_|refine zh ?_|refine zi ?_|refine zo ?_|refine zp ?_|refine zq ?_|refine zr ?_|refine zs ?_)
        refine r_nilQ rfl (map_isSome (pidx_isSome hqs)) ?_
        repeat' (first|refine za ?_|refine zA ?_|refine zB ?_|refine zb ?_|refine zc ?_|refine ze ?_|refine zd ?_|refine zC ?_|refine zD ?_|refine zE ?_|refine zF ?_|refine zG ?_|refine zH ?_|refine zI ?_|refine zJ ?_|refine zK ?_|refine zL ?_|refine zM ?_|refine zN ?_|refine zO ?_|refine zP ?_|refine zQ ?_|refine zR ?_|refine zS ?_|refine zU ?_|refine zV ?_|refine zW ?_|refine zt (fun hcd => ?_) (fun hcd => ?_)|refine zu (fun hcd => ?_) (fun hcd => ?_)|refine zX ?_|refine zY ?_|refine zv (fun hcd => ?_) (fun hcd => ?_)|refine zk ?_|refine zl ?_|refine zm ?_|refine zn ?_|refine zf ?_|refine zg ?_|refine zj ?_|refine zZ ?_|refine zh ?_|refine zi ?_|refine zo ?_|refine zp ?_|refine zq ?_|refine zr ?_|refine zs ?_)
        refine r_st_has hWz rfl rfl he fun w4 hW4 hC4 hs4 => ?_
        rw [hS1l] at hC4
        have hC04 := Ch.trans' (S := fun k => k = b ∨ (Value.slice q L.length c).ownBlock = some k) hCz hC4 fun k hk e => .inr e
        have hz5 := hz5.keep hC4 fun e => by have := (hnb _ e).2.1; omega
        have hz8 := hz8.keep hC4 fun e => by have := (hnb _ e).2.1; omega
        have hFz := hFz.keep hC4 fun e => (hnb _ e).2.2 rfl
        have g5 := hz5.rd
        have g8 := hz8.rd
        repeat' (first|refine za ?_|refine zA ?_|refine zB ?_|refine zb ?_|refine zc ?_|refine ze ?_|refine zd ?_|refine zC ?_|refine zD ?_|refine zE ?_|refine zF ?_|refine zG ?_|refine zH ?_|refine zI ?_|refine zJ ?_|refine zK ?_|refine zL ?_|refine zM ?_|refine zN ?_|refine zO ?_|refine zP ?_|refine zQ ?_|refine zR ?_|refine zS ?_|refine zU ?_|refine zV ?_|refine zW ?_|refine zt (fun hcd => ?_) (fun hcd => ?_)|refine zu (fun hcd => ?_) (fun hcd => ?_)|refine zX ?_|refine zY ?_|refine zv (fun hcd => ?_) (fun hcd => ?_)|refine zk ?_|refine zl ?_|refine zm ?_|refine zn ?_|refine zf ?_|refine zg ?_|refine zj ?_|refine zZ ?_|refine zh ?_|refine zi ?_|refine zo ?_|refine zp ?_|refine zq ?_|refine zr ?_|refine zs ?_)
        refine r_lookup (k := Qs.getD i 0) (v := .int .i64 e) mp105 kt3 hFz rfl rfl hvi ?_
        repeat' (first|refine za ?_|refine zA ?_|refine zB ?_|refine zb ?_|refine zc ?_|refine ze ?_|refine zd ?_|refine zC ?_|refine zD ?_|refine zE ?_|refine zF ?_|refine zG ?_|refine zH ?_|refine zI ?_|refine zJ ?_|refine zK ?_|refine zL ?_|refine zM ?_|refine zN ?_|refine zO ?_|refine zP ?_|refine zQ ?_|refine zR ?_|refine zS ?_|refine zU ?_|refine zV ?_|refine zW ?_|refine zt (fun hcd => ?_) (fun hcd => ?_)|refine zu (fun hcd => ?_) (fun hcd => ?_)|refine zX ?_|refine zY ?_|refine zv (fun hcd => ?_) (fun hcd => ?_)|refine zk ?_|refine zl ?_|refine zm ?_|refine zn ?_|refine zf ?_|refine zg ?_|refine zj ?_|refine zZ ?_|refine zh ?_|refine zi ?_|refine zo ?_|refine zp ?_|refine zq ?_|refine zr ?_|refine zs ?_)
        obtain ⟨f1, f2, f3⟩ := hMz.last hS hT (fun k hk => by have := hG k hk; omega) he (by omega) (by omega) (by omega) hLd1l hLd1le
        refine post0 rfl ⟨_, Ld1, hW4, f1, by omega, f3, hC04⟩
end Go.Proofs.Ytibegggcinonkaa
