/- TopSpanning: Tree of a net, walked. -/
import Derived.Test.YtocgehoffdjijaaGreatTS
namespace Go.Proofs.YtocgehoffdjijaaGreat
open Gv
set_option maxRecDepth 20000
def wS (S : List N3) (T : List Nat) : Nat → Nat
  | 0 => 0
  | i + 1 => wS S T i + (st S (T.getD i 0)).2.2
theorem wS_le {n : Nat} {S : List N3} (hS : NetOk n S) {T : List Nat} (hT : ∀ i, i < T.length → T.getD i 0 < S.length) : ∀ i, i ≤ T.length → wS S T i ≤ 1000 * i
  | 0, _ => Nat.le_refl _
  | i + 1, h => by
    have ih := wS_le hS hT i (by omega)
    have := (hS.ok _ (hT i (by omega))).2.2.2
    simp only [wS]
    omega
set_option maxHeartbeats 4000000 in
theorem weight_any (n : Nat) (q ql : Option Addr) (c cl : Nat) (S : List N3) (T : List Nat) (w : World) (h : Trip w (.slice q S.length c) S) (hS : NetOk n S) (hl : Ints w (.slice ql T.length cl) (ni T)) (hT : ∀ i, i < T.length → T.getD i 0 < S.length) (hTl : T.length ≤ 60) :
    Calls Tryz.prog 72 #[.agg (netV n q S.length c).toArray, .slice ql T.length cl] w (Ret fun v w' => v = .int .i64 ((wS S T T.length : Nat) : Int) ∧ Ext w w') := by
  have hsl := hS.len
  refine calls_of_wc (args := [.agg (netV n q S.length c).toArray, .slice ql T.length cl]) Tryz.func72 rfl ?_ ?_; kernel_rfl
  repeat' (first|refine za ?_|refine zc ?_|refine zd ?_)
  refine r_boxN (cells := netV n q S.length c) rfl fun w1 hb1 hE1 hs1 => ?_
  obtain ⟨b1, eb1⟩ : ∃ b, b = w.heap.size := ⟨_, rfl⟩
  rw [← eb1] at hb1 ⊢
  repeat' (first|refine za ?_|refine zA ?_|refine zB ?_|refine zb ?_|refine zc ?_|refine ze ?_|refine zd ?_|refine zC ?_|refine zD ?_|refine zE ?_|refine zF ?_|refine zG ?_|refine zH ?_|refine zI ?_|refine zJ ?_|refine zK ?_|refine zL ?_|refine zM ?_|refine zN ?_|refine zO ?_|refine zP ?_|refine zQ ?_|refine zR ?_|refine zS ?_|refine zU ?_|refine zV ?_|refine zW ?_|refine zt (fun hcd => ?_) (fun hcd => ?_)|refine zu (fun hcd => ?_) (fun hcd => ?_)|refine zX ?_|refine zY ?_|refine zv (fun hcd => ?_) (fun hcd => ?_)|refine zk ?_|refine zl ?_|refine zm ?_|refine zn ?_|refine zf ?_|refine zg ?_|refine zj ?_|refine zZ ?_|refine zh ?_|refine zi ?_|refine zo ?_|refine zp ?_|refine zq ?_|refine zr ?_|refine zs ?_)
  refine wc_loop [2, 8, 9] (fun (i : Nat) => [(5, .int .i64 ((wS S T i : Nat) : Int)), (10, .int .i64 i)]) (fun i wk => i ≤ T.length ∧ wk = w1) (fun i => T.length - i) 0 rfl ⟨rfl, rfl, trivial⟩ ⟨by omega, rfl⟩ ?_
  rintro i wk x ⟨hi, rfl⟩
  by_cases hin : i < T.length
  · have hps := hl.isSome (by rw [ni_len]; omega)
    have hrd := (hl.ext hE1).rd (i := i) (by rw [ni_len]; omega)
    rw [ni_get] at hrd
    have hkS := hT i hin
    have hw0 := wS_le hS hT i (by omega)
    have hw1 : wS S T (i + 1) = wS S T i + (st S (T.getD i 0)).2.2 := rfl
    have hw2 := wS_le hS hT (i + 1) (by omega)
    obtain ⟨_, _, s2⟩ := (h.ext hE1).rd (i := T.getD i 0) hkS
    have hqs := h.isSome (by omega)
    change rd wk ((pidx q (T.getD i 0) 3).map fun a => a.add 2) = some (.int .i64 (st S (T.getD i 0)).2.2) at s2
    have gq : rd wk (some ⟨b1, 0 + 1, none⟩) = some (.slice q S.length c) := hb1.rd rfl
    generalize (st S (T.getD i 0)).2.2 = wt at *
    generalize T.getD i 0 = k at *
    generalize wS S T i = s0 at *
    repeat' (first|refine za ?_|refine zA ?_|refine zB ?_|refine zb ?_|refine zc ?_|refine ze ?_|refine zd ?_|refine zC ?_|refine zD ?_|refine zE ?_|refine zF ?_|refine zG ?_|refine zH ?_|refine zI ?_|refine zJ ?_|refine zK ?_|refine zL ?_|refine zM ?_|refine zN ?_|refine zO ?_|refine zP ?_|refine zQ ?_|refine zR ?_|refine zS ?_|refine zU ?_|refine zV ?_|refine zW ?_|refine zt (fun hcd => ?_) (fun hcd => ?_)|refine zu (fun hcd => ?_) (fun hcd => ?_)|refine zX ?_|refine zY ?_|refine zv (fun hcd => ?_) (fun hcd => ?_)|refine zk ?_|refine zl ?_|refine zm ?_|refine zn ?_|refine zf ?_|refine zg ?_|refine zj ?_|refine zZ ?_|refine zh ?_|refine zi ?_|refine zo ?_|refine zp ?_|refine zq ?_|refine zr ?_|refine zs ?_)
    refine r_fa fo117_1 rfl ?_
    repeat' (first|refine za ?_|refine zA ?_|refine zB ?_|refine zb ?_|refine zc ?_|refine ze ?_|refine zd ?_|refine zC ?_|refine zD ?_|refine zE ?_|refine zF ?_|refine zG ?_|refine zH ?_|refine zI ?_|refine zJ ?_|refine zK ?_|refine zL ?_|refine zM ?_|refine zN ?_|refine zO ?_|refine zP ?_|refine zQ ?_|refine zR ?_|refine zS ?_|refine zU ?_|refine zV ?_|refine zW ?_|refine zt (fun hcd => ?_) (fun hcd => ?_)|refine zu (fun hcd => ?_) (fun hcd => ?_)|refine zX ?_|refine zY ?_|refine zv (fun hcd => ?_) (fun hcd => ?_)|refine zk ?_|refine zl ?_|refine zm ?_|refine zn ?_|refine zf ?_|refine zg ?_|refine zj ?_|refine zZ ?_|refine zh ?_|refine zi ?_|refine zo ?_|refine zp ?_|refine zq ?_|refine zr ?_|refine zs ?_)
    refine r_idx sz58 rfl rfl hqs (by omega) (by omega) ?_
    repeat' (refine za ?_)
    refine r_faQ fo60_2 rfl (pidx_isSome hqs) ?_
    repeat' (first|refine za ?_|refine zA ?_|refine zB ?_|refine zb ?_|refine zc ?_|refine ze ?_|refine zd ?_|refine zC ?_|refine zD ?_|refine zE ?_|refine zF ?_|refine zG ?_|refine zH ?_|refine zI ?_|refine zJ ?_|refine zK ?_|refine zL ?_|refine zM ?_|refine zN ?_|refine zO ?_|refine zP ?_|refine zQ ?_|refine zR ?_|refine zS ?_|refine zU ?_|refine zV ?_|refine zW ?_|refine zt (fun hcd => ?_) (fun hcd => ?_)|refine zu (fun hcd => ?_) (fun hcd => ?_)|refine zX ?_|refine zY ?_|refine zv (fun hcd => ?_) (fun hcd => ?_)|refine zk ?_|refine zl ?_|refine zm ?_|refine zn ?_|refine zf ?_|refine zg ?_|refine zj ?_|refine zZ ?_|refine zh ?_|refine zi ?_|refine zo ?_|refine zp ?_|refine zq ?_|refine zr ?_|refine zs ?_)
    exact ⟨i + 1, ⟨congrArg (Value.int .i64) (by rw [hw1, Int.natCast_add]), rfl, trivial⟩, ⟨by omega, rfl⟩, by omega⟩
  obtain rfl : i = T.length := by omega
  repeat' (first|refine za ?_|refine zA ?_|refine zB ?_|refine zb ?_|refine zc ?_|refine ze ?_|refine zd ?_|refine zC ?_|refine zD ?_|refine zE ?_|refine zF ?_|refine zG ?_|refine zH ?_|refine zI ?_|refine zJ ?_|refine zK ?_|refine zL ?_|refine zM ?_|refine zN ?_|refine zO ?_|refine zP ?_|refine zQ ?_|refine zR ?_|refine zS ?_|refine zU ?_|refine zV ?_|refine zW ?_|refine zt (fun hcd => ?_) (fun hcd => ?_)|refine zu (fun hcd => ?_) (fun hcd => ?_)|refine zX ?_|refine zY ?_|refine zv (fun hcd => ?_) (fun hcd => ?_)|refine zk ?_|refine zl ?_|refine zm ?_|refine zn ?_|refine zf ?_|refine zg ?_|refine zj ?_|refine zZ ?_|refine zh ?_|refine zi ?_|refine zo ?_|refine zp ?_|refine zq ?_|refine zr ?_|refine zs ?_)
  refine post1 (v := .int .i64 ((wS S T T.length : Nat) : Int)) rfl rfl ?_
  exact ⟨rfl, hE1⟩
theorem ni_sort {L : List Nat} {M : List Int} (h : M.Perm (ni L)) : ∃ T : List Nat, T.Perm L ∧ M = ni T := by
  refine ⟨M.map Int.toNat, ?_, ?_⟩
  · have := h.map Int.toNat
    refine this.trans (List.Perm.of_eq ?_)
    unfold ni
    rw [List.map_map]
    exact (List.map_congr_left fun a _ => Int.toNat_natCast a).trans (List.map_id L)
  · unfold ni
    rw [List.map_map]
    refine (List.map_id M).symm.trans (List.map_congr_left fun x hx => ?_)
    have := h.mem_iff.1 hx
    obtain ⟨a, _, rfl⟩ := List.mem_map.1 this
    simp
set_option maxHeartbeats 4000000 in
theorem Tree_all (n : Nat) (S : List N3) (hn : 2 ≤ n ∧ n ≤ 12) (hS : NetOk n S) (hlk : Linked n S) (q : Option Addr) (c : Nat) (w : World) (h : Trip w (.slice q S.length c) S) :
    Calls Tryz.prog 32 #[.int .i64 (n : Int), .slice q S.length c] w (Ret fun v w' => ∃ T u, v = .tuple #[u, .int .i64 ((wS S T T.length : Nat) : Int), .int .i64 0] ∧ OwnI w' w.heap.size 3 u (ni T) ∧ T.Perm (tst S (srtO S) (srtO S).length) ∧ Ext w w') := by
  have hO := srtOrd hS
  have hm1 : 1 ≤ S.length := by
    obtain ⟨k, hk, _⟩ := hlk 1 (by omega) (by omega)
    omega
  have hSl := hS.len
  have hord : OrdOf S (srtO S) := ordered_any S hm1 (by omega)
  have hcnt := cnt_all hO (srt_perm S) hlk
  have hOl := srt_len S
  have htl := tst_len S (srtO S) (srtO S).length
  refine calls_of_wc (args := [.int .i64 (n : Int), .slice q S.length c]) Tryz.func32 rfl ?_ ?_; kernel_rfl
  repeat' (first|refine za ?_|refine zA ?_|refine zB ?_|refine zb ?_|refine zc ?_|refine ze ?_|refine zd ?_|refine zC ?_|refine zD ?_|refine zE ?_|refine zF ?_|refine zG ?_|refine zH ?_|refine zI ?_|refine zJ ?_|refine zK ?_|refine zL ?_|refine zM ?_|refine zN ?_|refine zO ?_|refine zP ?_|refine zQ ?_|refine zR ?_|refine zS ?_|refine zU ?_|refine zV ?_|refine zW ?_|refine zt (fun hcd => ?_) (fun hcd => ?_)|refine zu (fun hcd => ?_) (fun hcd => ?_)|refine zX ?_|refine zY ?_|refine zv (fun hcd => ?_) (fun hcd => ?_)|refine zk ?_|refine zl ?_|refine zm ?_|refine zn ?_|refine zf ?_|refine zg ?_|refine zj ?_|refine zZ ?_|refine zh ?_|refine zi ?_|refine zo ?_|refine zp ?_|refine zq ?_|refine zr ?_|refine zs ?_)
  (refine r_call (R := ?_) rfl ?_ ?_; rotate_left 1; focus exact newNet_any n q c S w h hS)
  rintro _ w1 ⟨rfl, hE1⟩
  repeat' (first|refine za ?_|refine zA ?_|refine zS ?_)
  refine r_allocN z117 fun w2 hb2 hE2 hs2 => ?_
  obtain ⟨b6, eb6⟩ : ∃ b, b = w1.heap.size := ⟨_, rfl⟩
  rw [← eb6] at hb2 ⊢
  repeat' (refine za ?_)
  refine r_stN (ws := netV n q S.length c) ag117 (by decide) hb2 rfl rfl rfl rfl (by intro q hq; simp at hq; rcases hq with rfl | rfl <;> rfl) fun w3 hb3 hC3 hs3 => ?_
  have hE3 : Ext w1 w3 := Ch.trans' hE2 hC3 fun k hk e => by omega
  have hE03 := hE1.trans hE3
  repeat' (first|refine za ?_|refine zA ?_|refine zB ?_|refine zb ?_|refine zc ?_|refine ze ?_|refine zd ?_|refine zO ?_|refine zY ?_|refine zk ?_)
  refine r_ldN (vs := netV n q S.length c) ag117 (by decide) hb3 rfl rfl ?_
  repeat' (refine za ?_)
  (refine r_call (R := ?_) rfl ?_ ?_; rotate_left 1; focus exact tree60 n q c S (srtO S) w3 (h.ext hE03) hS hord hO.lt (by omega))
  rintro _ w4 ⟨vt, rfl, hvt, hE4⟩
  rw [decide_eq_true hcnt]
  obtain ⟨qt, ct, rfl, _⟩ := hvt.ints.slice
  have hnz : (ni (tst S (srtO S) (srtO S).length)).length ≠ 0 := by rw [ni_len, htl]; omega
  obtain ⟨g, hg⟩ := OwnI.ptr hvt (by rw [ni_len, htl]; omega)
  subst hg
  repeat' (first|refine za ?_|refine zA ?_|refine zB ?_|refine zb ?_|refine zc ?_|refine ze ?_|refine zd ?_|refine zC ?_|refine zD ?_|refine zE ?_|refine zF ?_|refine zG ?_|refine zH ?_|refine zI ?_|refine zJ ?_|refine zK ?_|refine zL ?_|refine zM ?_|refine zN ?_|refine zO ?_|refine zP ?_|refine zQ ?_|refine zR ?_|refine zS ?_|refine zU ?_|refine zV ?_|refine zW ?_|refine zt (fun hcd => ?_) (fun hcd => ?_)|refine zu (fun hcd => ?_) (fun hcd => ?_)|refine zX ?_|refine zY ?_|refine zv (fun hcd => ?_) (fun hcd => ?_)|refine zk ?_|refine zl ?_|refine zm ?_|refine zn ?_|refine zf ?_|refine zg ?_|refine zj ?_|refine zZ ?_|refine zh ?_|refine zi ?_|refine zo ?_|refine zp ?_|refine zq ?_|refine zr ?_|refine zs ?_)
  have hslc := hvt
  have hn60 : (ni (tst S (srtO S) (srtO S).length)).length ≤ 60 := by rw [ni_len, htl]; omega
  (refine r_call (R := ?_) rfl ?_ ?_; rotate_left 1; focus exact Bg.sort_any g ct (ni (tst S (srtO S) (srtO S).length)) w4 w3.heap.size 3 hvt (by omega))
  rintro _ w5 ⟨hQ, hgr⟩
  have hperm := List.mergeSort_perm (ni (tst S (srtO S) (srtO S).length)) (fun x y => decide (x ≤ y))
  obtain ⟨T, hT, hTe⟩ := ni_sort hperm
  rw [hTe] at hQ
  have hTl : T.length = (ni (tst S (srtO S) (srtO S).length)).length := by rw [hT.length_eq, ni_len]
  rw [← hTl] at hQ hn60 ⊢
  have hC5 : Ch (fun k => k = g) w4 w5 := Ch.grown hgr fun k hk => (Option.some.inj hk).symm
  have hg5 := World.ownsRow.lt hvt g rfl
  have hE35 : Ext w3 w5 := Ch.trans' hE4 hC5 fun k hk e => by omega
  have hb5 : Blk w5 b6 117 (netV n q S.length c) := (hb3.ext hE4).keep hC5 (by
    have := hb3.lt
    omega)
  have hTk : ∀ i, i < T.length → T.getD i 0 < S.length := fun i hi => tst_mem hO (Nat.le_refl _) _ (hT.mem_iff.1 (getD_memT hi))
  repeat' (first|refine za ?_|refine zA ?_|refine zB ?_|refine zb ?_|refine zc ?_|refine ze ?_|refine zd ?_|refine zC ?_|refine zD ?_|refine zE ?_|refine zF ?_|refine zG ?_|refine zH ?_|refine zI ?_|refine zJ ?_|refine zK ?_|refine zL ?_|refine zM ?_|refine zN ?_|refine zO ?_|refine zP ?_|refine zQ ?_|refine zR ?_|refine zS ?_|refine zU ?_|refine zV ?_|refine zW ?_|refine zt (fun hcd => ?_) (fun hcd => ?_)|refine zu (fun hcd => ?_) (fun hcd => ?_)|refine zX ?_|refine zY ?_|refine zv (fun hcd => ?_) (fun hcd => ?_)|refine zk ?_|refine zl ?_|refine zm ?_|refine zn ?_|refine zf ?_|refine zg ?_|refine zj ?_|refine zZ ?_|refine zh ?_|refine zi ?_|refine zo ?_|refine zp ?_|refine zq ?_|refine zr ?_|refine zs ?_)
  refine r_ldN (vs := netV n q S.length c) ag117 (by decide) hb5 rfl rfl ?_
  repeat' (first|refine za ?_|refine zA ?_|refine zB ?_|refine zb ?_|refine zc ?_|refine ze ?_|refine zd ?_|refine zC ?_|refine zD ?_|refine zE ?_|refine zF ?_|refine zG ?_|refine zH ?_|refine zI ?_|refine zJ ?_|refine zK ?_|refine zL ?_|refine zM ?_|refine zN ?_|refine zO ?_|refine zP ?_|refine zQ ?_|refine zR ?_|refine zS ?_|refine zU ?_|refine zV ?_|refine zW ?_|refine zt (fun hcd => ?_) (fun hcd => ?_)|refine zu (fun hcd => ?_) (fun hcd => ?_)|refine zX ?_|refine zY ?_|refine zv (fun hcd => ?_) (fun hcd => ?_)|refine zk ?_|refine zl ?_|refine zm ?_|refine zn ?_|refine zf ?_|refine zg ?_|refine zj ?_|refine zZ ?_|refine zh ?_|refine zi ?_|refine zo ?_|refine zp ?_|refine zq ?_|refine zr ?_|refine zs ?_)
  (refine r_call (R := ?_) rfl ?_ ?_; rotate_left 1; focus exact weight_any n q (some ⟨g, 0, none⟩) c ct S T w5 (h.ext (hE03.trans hE35)) hS hQ.ints hTk hn60)
  rintro _ w6 ⟨rfl, hE6⟩
  repeat' (first|refine za ?_|refine zA ?_|refine zB ?_|refine zb ?_|refine zc ?_|refine ze ?_|refine zd ?_|refine zC ?_|refine zD ?_|refine zE ?_|refine zF ?_|refine zG ?_|refine zH ?_|refine zI ?_|refine zJ ?_|refine zK ?_|refine zL ?_|refine zM ?_|refine zN ?_|refine zO ?_|refine zP ?_|refine zQ ?_|refine zR ?_|refine zS ?_|refine zU ?_|refine zV ?_|refine zW ?_|refine zt (fun hcd => ?_) (fun hcd => ?_)|refine zu (fun hcd => ?_) (fun hcd => ?_)|refine zX ?_|refine zY ?_|refine zv (fun hcd => ?_) (fun hcd => ?_)|refine zk ?_|refine zl ?_|refine zm ?_|refine zn ?_|refine zf ?_|refine zg ?_|refine zj ?_|refine zZ ?_|refine zh ?_|refine zi ?_|refine zo ?_|refine zp ?_|refine zq ?_|refine zr ?_|refine zs ?_)
  refine post3 (v1 := .slice (some ⟨g, 0, none⟩) T.length ct) (v2 := .int .i64 ((wS S T T.length : Nat) : Int)) (v3 := .int .i64 0) rfl rfl rfl rfl ?_
  exact ⟨T, _, rfl, ownsRow_mono (ownsRow_ext hQ hE6) hE03.size, hT, (hE03.trans hE35).trans hE6⟩
end Go.Proofs.YtocgehoffdjijaaGreat
