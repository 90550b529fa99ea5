/- TopCayley: Count of a net in which all streets weigh the same; Plain law of TopCayley: the complete graph; TopCayley, walked. -/
import Derived.Test.YtocgehoffdjijaaGreatCYA
import Derived.Test.YtocgehoffdjijaaGreatSU
import Derived.Test.YtocgehoffdjijaaGreatBQ
import Derived.Test.YtocgehoffdjijaaGreatBW
import Derived.Test.YtocgehoffdjijaaGreatT1
/- TopCayley: Count of a net in which all streets weigh the same. -/
namespace Go.Proofs.YtocgehoffdjijaaGreat
open Gv
set_option maxRecDepth 20000
theorem srt_ord {n : Nat} {S : List N3} (hS : NetOk n S) : OrdN n S (srtO S) := ⟨hS, fun i hi => by
  have : (srtO S).getD i 0 ∈ srtO S := by
    rw [List.getD_eq_getElem?_getD, List.getElem?_eq_getElem hi]; exact List.getElem_mem hi
  simpa using (srt_perm S).mem_iff.1 this⟩
/-- What is asked of a net, that its trees may be counted so. -/
structure CayOk (n : Nat) (S : List N3) (wt p D : Nat) : Prop where
  n2 : 2 ≤ n ∧ n ≤ 11
  net : NetOk n S
  wgt : ∀ k, k < S.length → (st S k).2.2 = wt
  lnk : Linked n S
  pb : 2 ≤ p ∧ p < 2147483648
  fin : ∀ a b, a < n - 1 → b < n - 1 → matF p S S.length a b = oXY (n - 1) (p - 1) a b
  ok : okXY p (n - 1) (n - 1) (p - 1)
  np : n - 1 < p
  det : dXY p (n - 1) (n - 1) (p - 1) 1 = D
  dp : D < p
theorem CayOk.pos {n : Nat} {S : List N3} {wt p D : Nat} (h : CayOk n S wt p D) : 1 ≤ S.length := by
  obtain ⟨k, hk, _⟩ := h.lnk 1 (by omega) (by have := h.n2; omega)
  omega
set_option maxHeartbeats 8000000 in
theorem smallest_all (n : Nat) (S : List N3) (wt p D : Nat) (hC : CayOk n S wt p D) (q : Option Addr) (c : Nat) (w : World) (h : Trip w (.slice q S.length c) S) :
    Calls Tryz.prog 61 #[.agg (netV n q S.length c).toArray, .int .i64 (p : Int)] w (Ret fun v w' => v = .int .i64 (D : Int) ∧ Ext w w') := by
  have hS := hC.net
  have hO := srt_ord hS
  have hm1 := hC.pos
  have hSl := hS.len
  obtain ⟨O, hOe⟩ : ∃ O, O = srtO S := ⟨_, rfl⟩
  have hord : OrdOf S O := by rw [hOe]; exact ordered_any S hm1 (by omega)
  have hOl : O.length = S.length := by rw [hOe]; exact srt_len S
  rw [← hOe] at hO
  have hrt := rt_all hO (by rw [hOe]; exact srt_perm S) hC.lnk
  have hPU := hO.par (Nat.le_refl _)
  have hp := hC.pb
  refine calls_of_wc (args := [.agg (netV n q S.length c).toArray, .int .i64 (p : Int)]) Tryz.func61 rfl ?_ ?_; kernel_rfl
  repeat' (first|refine za ?_|refine zc ?_|refine zd ?_)
  refine r_boxN (cells := netV n q S.length c) rfl fun w1 hb2 hE1 hs1 => ?_
  obtain ⟨b2, eb2⟩ : ∃ b, b = w.heap.size := ⟨_, rfl⟩
  rw [← eb2] at hb2 ⊢
  repeat' (first|refine za ?_|refine zB ?_|refine zb ?_|refine zc ?_|refine ze ?_|refine zd ?_)
  (refine r_call (R := ?_) rfl ?_ ?_; rotate_left 1; focus exact apart_any _)
  rintro _ w2 ⟨rfl, hB2, hE2⟩
  obtain ⟨bB, ebB⟩ : ∃ b, b = w1.heap.size := ⟨_, rfl⟩
  rw [← ebB] at hB2 ⊢
  repeat' (first|refine za ?_|refine zB ?_|refine zb ?_|refine zc ?_|refine ze ?_|refine zd ?_)
  refine r_ldN (vs := netV n q S.length c) ag117 (by decide) (hb2.ext hE2) rfl rfl ?_
  repeat' (refine za ?_)
  (refine r_call (R := ?_) rfl ?_ ?_; rotate_left 1; focus exact hord n q c w2 (h.ext (hE1.trans hE2)))
  rintro vo w3 ⟨hvo, hE3⟩
  obtain ⟨qo, co, rfl, hqo⟩ := hvo.ints.slice
  have hnl : (ni O).length = S.length := by rw [ni_len, hOl]
  have hio : Ints w3 (.slice qo S.length co) (ni O) := by rw [← hnl]; exact hvo.ints
  have hE03 := (hE1.trans hE2).trans hE3
  rw [hnl]
  repeat' (first|refine za ?_|refine zA ?_|refine zB ?_|refine zb ?_|refine zc ?_|refine ze ?_|refine zd ?_|refine zK ?_|refine zl ?_)
  refine wc_loop3 [1, 2, 7, 16, 17] (fun (i : Nat) (o : Nat) (v : Value) => [(5, .int .i64 (o : Int)), (6, v), (18, .int .i64 i)]) (fun i o v wk => i ≤ S.length ∧ Ext w3 wk ∧ (i < S.length → o = 1 ∧ v = .pointer (some ⟨bB, 0, none⟩)) ∧ (i = S.length → o = D)) (fun i _ _ => S.length - i) 0 1 (.pointer (some ⟨bB, 0, none⟩)) rfl ⟨rfl, rfl, rfl, trivial⟩ ⟨by omega, Ext.refl _, fun _ => ⟨rfl, rfl⟩, fun h => by omega⟩ ?_
  rintro i o v wk x ⟨hi, hEk, hv, hoD⟩
  by_cases hin : i < S.length
  rotate_left 1
  · obtain rfl := hoD (by omega)
    repeat' (first|refine za ?_|refine zA ?_|refine zB ?_|refine zb ?_|refine zc ?_|refine ze ?_|refine zd ?_|refine zC ?_|refine zY ?_|refine zm ?_|refine zn ?_|refine zg ?_|refine zj ?_)
    refine post1 (v := .int .i64 (o : Int)) rfl rfl ?_
    exact ⟨rfl, hE03.trans hEk⟩
  obtain ⟨rfl, rfl⟩ := hv hin
  have hb2k := hb2.ext ((hE2.trans hE3).trans hEk)
  have gq : rd wk (some ⟨b2, 0 + 1, none⟩) = some (.slice q S.length c) := hb2k.rd rfl
  have hps := hio.isSome (by omega)
  have hrd := (hio.ext hEk).rd (i := i) (by omega)
  rw [ni_get] at hrd
  have hki := hO.lt i (by omega)
  obtain ⟨_, _, s2⟩ := (h.ext (hE03.trans hEk)).rd hki
  change rd wk ((pidx q (O.getD i 0) 3).map fun a => a.add 2) = some (.int .i64 ((st S (O.getD i 0)).2.2 : Int)) at s2
  rw [hC.wgt _ hki] at s2
  have hqs := h.isSome (by omega)
  obtain ⟨ki, hkie⟩ : ∃ ki, ki = O.getD i 0 := ⟨_, rfl⟩
  rw [← hkie] at hrd hki s2
  repeat' (first|refine za ?_|refine zA ?_|refine zB ?_|refine zb ?_|refine zc ?_|refine ze ?_|refine zd ?_|refine zC ?_|refine zL ?_|refine zM ?_|refine zX ?_|refine zk ?_|refine zl ?_)
  refine r_fa fo117_1 rfl ?_
  repeat' (first|refine za ?_|refine zA ?_|refine zM ?_)
  refine r_idx sz58 rfl rfl hqs (by omega) (by omega) ?_
  repeat' (refine za ?_)
  refine r_faQ fo60_2 rfl (pidx_isSome hqs) ?_
  repeat' (first|refine za ?_|refine zB ?_|refine zb ?_|refine zc ?_|refine ze ?_|refine zM ?_)
  by_cases hlast : i + 1 < S.length
  · have hEd := Ext.drew wk
    have gqd := rd_ext gq hEd
    have hrd2 := (hio.ext (hEk.trans hEd)).rd (i := i + 1) (by omega)
    rw [ni_get] at hrd2
    have hki2 := hO.lt (i + 1) (by omega)
    obtain ⟨_, _, s22⟩ := (h.ext ((hE03.trans hEk).trans hEd)).rd hki2
    change rd wk.drew ((pidx q (O.getD (i + 1) 0) 3).map fun a => a.add 2) = some (.int .i64 ((st S (O.getD (i + 1) 0)).2.2 : Int)) at s22
    rw [hC.wgt _ hki2] at s22
    obtain ⟨kj, hkje⟩ : ∃ kj, kj = O.getD (i + 1) 0 := ⟨_, rfl⟩
    rw [← hkje] at hrd2 hki2 s22
    (refine wc_drawn 17 (by kernel_rfl) (by kernel_rfl) ?_; simp only [List.take_succ_cons, List.take_zero, List.drop_succ_cons, List.drop_zero])
    repeat' (first|refine za ?_|refine zA ?_|refine zC ?_|refine zI ?_|refine zK ?_|refine zU ?_)
    refine r_fa fo117_1 rfl ?_
    repeat' (first|refine zA ?_|refine zI ?_|refine zL ?_|refine zM ?_|refine zU ?_)
    refine r_idx sz58 rfl rfl hqs (by omega) (by omega) ?_
    repeat' (refine zU ?_)
    refine r_faQ fo60_2 rfl (pidx_isSome hqs) ?_
    repeat' (first|refine za ?_|refine zA ?_|refine zb ?_|refine ze ?_|refine zd ?_|refine zG ?_|refine zI ?_|refine zM ?_|refine zQ ?_|refine zU ?_|refine zX ?_|refine zm ?_|refine zg ?_|refine zj ?_)
    exact ⟨i + 1, 1, _, ⟨rfl, rfl, rfl, trivial⟩, ⟨by omega, hEk.trans hEd, fun _ => ⟨rfl, rfl⟩, fun h => by omega⟩, by omega⟩
  have him : i + 1 = S.length := by omega
  (refine wc_drawn 17 (by kernel_rfl) (by kernel_rfl) ?_; simp only [List.take_succ_cons, List.take_zero, List.drop_succ_cons, List.drop_zero])
  repeat' (first|refine za ?_|refine zA ?_|refine zb ?_|refine zc ?_|refine ze ?_|refine zC ?_|refine zI ?_|refine zK ?_|refine zR ?_|refine zV ?_|refine zY ?_|refine zk ?_)
  refine wc_heldB (fun w' => Ext wk.drew.drew w') (.take 0 (.take 1 (.take 2 (.take 3 (.one 4 (.one 5 (.take 6 (.take 7 (.take 8 (.one 9 (.one 10 .done))))))))))) (by kernel_rfl) (by kernel_rfl) (Ext.refl _) ?_
  have hEdd : Ext wk wk.drew.drew := (Ext.drew wk).trans (Ext.drew wk.drew)
  have hb2d := hb2k.ext hEdd
  refine whB_take rfl rfl (fun w' hw' => rv_of rfl (fun _ h => r_ldN (vs := netV n q S.length c) ag117 (by decide) (hb2d.ext hw') rfl rfl h) fun _ _ h => val_of h) ?_
  repeat' (first|refine whB_take (v := .int _ _) rfl rfl (fun w' hw' => rv_move_v rfl) ?_|refine whB_take (v := .slice _ _ _) rfl rfl (fun w' hw' => rv_move_v rfl) ?_)
  refine whB_take rfl rfl (fun w' hw' => rv_of rfl (fun _ h => r_add_in rfl rfl (by omega) h) fun _ _ h => val_of h) ?_
  refine whB_one rfl rfl ?_
  refine r_slice_i (A := ni O) (l := 0) (h' := S.length) sz27 (by rw [hnl]; exact hio.ext (hEk.trans hEdd)) (by rw [hnl]; rfl) rfl ⟨.i64, congrArg (Value.int .i64) (show (i : Int) + 1 = (S.length : Int) by omega)⟩ (by omega) (by omega) fun q' c' hq' hqc' _ => ?_
  have hq2 : Ints wk.drew.drew (.slice q' S.length c') (ni O) := by
    have e : ((ni O).drop 0).take (S.length - 0) = ni O := by rw [List.drop_zero, List.take_of_length_le (by omega)]
    rw [e] at hq'
    exact hq'
  rw [Nat.sub_zero]
  refine ⟨Ext.refl _, whB_one rfl rfl ?_⟩
  have hjo := joined_any n q q' c c' S O wk.drew.drew (h.ext ((hE03.trans hEk).trans hEdd)) hS (by rw [hOl]; exact hq2) hO.lt (by omega)
  rw [hOl] at hjo
  (refine r_call (R := ?_) rfl ?_ ?_; rotate_left 1; focus exact hjo)
  rintro _ w5 ⟨bA, rfl, hbA, hA5, hE5⟩
  refine ⟨hE5, ?_⟩
  refine whB_take (v := .tuple #[.pointer (some ⟨bA, 0, none⟩), .int .i64 ((jst S O S.length).2 : Int)]) rfl rfl (fun w' hw' => rv_move_v rfl) ?_
  refine whB_take rfl rfl (fun w' hw' => rv_of rfl (fun _ h => r_ext (v := .pointer (some ⟨bA, 0, none⟩)) rfl rfl h) fun _ _ h => val_of h) ?_
  refine whB_take rfl rfl (fun w' hw' => rv_of rfl (fun _ h => r_ext (v := .int .i64 ((jst S O S.length).2 : Int)) rfl rfl h) fun _ _ h => val_of h) ?_
  refine whB_one rfl rfl ?_
  refine r_assign_v (v := .pointer (some ⟨bA, 0, none⟩)) rfl ?_
  refine ⟨hE5, whB_one rfl rfl ?_⟩
  refine r_assign_v (v := .int .i64 ((jst S O S.length).2 : Int)) rfl ?_
  refine ⟨hE5, whB_done ?_⟩
  have hE5k := hEdd.trans hE5
  rw [hOl] at hrt hPU
  repeat' (first|refine za ?_|refine zA ?_|refine zc ?_|refine ze ?_|refine zd ?_)
  refine r_ldN (vs := netV n q S.length c) ag117 (by decide) (hb2k.ext hE5k) rfl rfl ?_
  repeat' (first|refine za ?_|refine zA ?_)
  (refine r_call (R := ?_) rfl ?_ ?_; rotate_left 1; focus exact spanning_all n hC.n2 S hS wt hC.wgt (jst S O S.length).1 hPU hrt q c bB bA p w5 (h.ext ((hE03.trans hEk).trans hE5k)) (Blk.ext hB2 ((hE3.trans hEk).trans hE5k)) hA5 hp hC.fin hC.ok hC.np D hC.det hC.dp)
  rintro _ w6 ⟨rfl, hE6⟩
  have hDp := hC.dp
  repeat' (refine za ?_)
  refine r_mul_n (a := 1) (b := D) (c := D) rfl rfl (by omega) (by omega) ?_
  repeat' (first|refine za ?_|refine zA ?_)
  refine r_rem_n (a := D) (c := D) rfl rfl (by omega) (Nat.mod_eq_of_lt hDp) ?_
  repeat' (first|refine za ?_|refine zA ?_|refine zB ?_|refine zb ?_|refine ze ?_|refine zd ?_|refine zI ?_|refine zh ?_)
  exact ⟨i + 1, D, _, ⟨rfl, rfl, rfl, trivial⟩, ⟨by omega, (hEk.trans hE5k).trans hE6, fun h => by omega, fun _ => rfl⟩, by omega⟩
set_option maxHeartbeats 4000000 in
theorem Count_all (n : Nat) (S : List N3) (wt D : Nat) (hC : CayOk n S wt 2147483647 D) (hC2 : CayOk n S wt 2147483629 D) (q : Option Addr) (c : Nat) (w : World) (h : Trip w (.slice q S.length c) S) :
    Calls Tryz.prog 26 #[.int .i64 (n : Int), .slice q S.length c] w (Ret fun v w' => v = .tuple #[.int .i64 (D : Int), .int .i64 0] ∧ Ext w w') := by
  have hS := hC.net
  have hO := srt_ord hS
  have hm1 := hC.pos
  have hSl := hS.len
  have hDp := hC2.dp
  have hord : OrdOf S (srtO S) := ordered_any S hm1 (by omega)
  have hcnt := cnt_all hO (srt_perm S) hC.lnk
  have hOl := srt_len S
  refine calls_of_wc (args := [.int .i64 (n : Int), .slice q S.length c]) Tryz.func26 rfl ?_ ?_; kernel_rfl
  repeat' (first|refine za ?_|refine zA ?_|refine zB ?_|refine zb ?_|refine zc ?_|refine ze ?_|refine zd ?_)
  (refine r_call (R := ?_) rfl ?_ ?_; rotate_left 1; focus exact newNet_any n q c S w h hS)
  rintro _ w1 ⟨rfl, hE1⟩
  repeat' (first|refine za ?_|refine zA ?_|refine zS ?_)
  refine r_allocN z117 fun w2 hb2 hE2 hs2 => ?_
  obtain ⟨b6, eb6⟩ : ∃ b, b = w1.heap.size := ⟨_, rfl⟩
  rw [← eb6] at hb2 ⊢
  repeat' (refine za ?_)
  refine r_stN (ws := netV n q S.length c) ag117 (by decide) hb2 rfl rfl rfl rfl (by intro q hq; simp at hq; rcases hq with rfl | rfl <;> rfl) fun w3 hb3 hC3 hs3 => ?_
  have hE3 : Ext w1 w3 := Ch.trans' hE2 hC3 fun k hk e => by omega
  have hE03 := hE1.trans hE3
  repeat' (first|refine za ?_|refine zA ?_|refine zB ?_|refine zb ?_|refine zc ?_|refine ze ?_|refine zd ?_|refine zO ?_|refine zY ?_|refine zk ?_)
  refine r_ldN (vs := netV n q S.length c) ag117 (by decide) hb3 rfl rfl ?_
  repeat' (refine za ?_)
  (refine r_call (R := ?_) rfl ?_ ?_; rotate_left 1; focus exact tree60 n q c S (srtO S) w3 (h.ext hE03) hS hord hO.lt (by omega))
  rintro _ w4 ⟨vt, rfl, hvt, hE4⟩
  rw [decide_eq_true hcnt]
  obtain ⟨qt, ct, rfl, _⟩ := hvt.ints.slice
  repeat' (first|refine za ?_|refine zA ?_|refine zB ?_|refine zb ?_|refine zc ?_|refine ze ?_|refine zd ?_|refine zO ?_|refine zS ?_|refine zY ?_|refine zk ?_)
  have hb4 := hb3.ext hE4
  refine wc_heldB (fun w' => Ext w4.drew w') (.take 0 (.take 2 (.one 1 (.one 3 (.one 4 (.one 5 .done)))))) (by kernel_rfl) (by kernel_rfl) (Ext.refl _) ?_
  have hb4d := hb4.ext (Ext.drew w4)
  refine whB_take rfl rfl (fun w' hw' => rv_of rfl (fun _ h => r_ldN (vs := netV n q S.length c) ag117 (by decide) (hb4d.ext hw') rfl rfl h) fun _ _ h => val_of h) ?_
  refine whB_take rfl rfl (fun w' hw' => rv_of rfl (fun _ h => r_ldN (vs := netV n q S.length c) ag117 (by decide) (hb4d.ext hw') rfl rfl h) fun _ _ h => val_of h) ?_
  refine whB_one rfl rfl ?_
  have hE4d := (hE03.trans hE4).trans (Ext.drew w4)
  (refine r_call (R := ?_) rfl ?_ ?_; rotate_left 1; focus exact smallest_all n S wt 2147483647 D hC q c w4.drew (h.ext hE4d))
  rintro _ w5 ⟨rfl, hE5⟩
  refine ⟨hE5, whB_one rfl rfl ?_⟩
  (refine r_call (R := ?_) rfl ?_ ?_; rotate_left 1; focus exact smallest_all n S wt 2147483629 D hC2 q c w5 (h.ext (hE4d.trans hE5)))
  rintro _ w6 ⟨rfl, hE6⟩
  refine ⟨hE5.trans hE6, whB_one rfl rfl ?_⟩
  refine r_assign_v (v := .int .i64 (D : Int)) rfl ?_
  refine ⟨hE5.trans hE6, whB_one rfl rfl ?_⟩
  refine r_assign_v (v := .int .i64 (D : Int)) rfl ?_
  refine ⟨hE5.trans hE6, whB_done ?_⟩
  repeat' (first|refine za ?_|refine zA ?_|refine zc ?_|refine ze ?_|refine zd ?_)
  refine r_rem_n (a := D) (b := 2147483629) (c := D) rfl rfl (by decide) (Nat.mod_eq_of_lt hDp) ?_
  repeat' (first|refine za ?_|refine zI ?_|refine zJ ?_)
  refine r_rem_v (c := 0) rfl rfl (by omega) (by decide) (by omega) ?_
  repeat' (refine za ?_)
  (refine r_call (R := ?_) rfl ?_ ?_; rotate_left 1; focus exact power_int 18 2147483629 2147483627 _ (by decide) (by decide) (by decide))
  rintro _ w7 ⟨⟨r, rfl, hr⟩, rfl⟩
  repeat' (refine za ?_)
  refine r_mul_n (a := 0) (b := r) (c := 0) rfl rfl (by omega) (Nat.zero_mul r) ?_
  repeat' (refine za ?_)
  refine r_rem_n (a := 0) (b := 2147483629) (c := 0) rfl rfl (by decide) (by decide) ?_
  repeat' (first|refine za ?_|refine zA ?_|refine zB ?_|refine zb ?_|refine zc ?_|refine ze ?_|refine zd ?_)
  refine r_mul_n (a := 2147483647) (b := 0) (c := 0) rfl rfl (by decide) (by decide) ?_
  repeat' (first|refine za ?_|refine zB ?_|refine zb ?_|refine ze ?_|refine zI ?_|refine zn ?_)
  refine post2 (v1 := .int .i64 (D : Int)) (v2 := .int .i64 0) rfl rfl rfl ?_
  exact ⟨congrArg (fun x => Value.tuple #[.int .i64 x, .int .i64 0]) (by omega), (hE4d.trans hE5).trans hE6⟩
end Go.Proofs.YtocgehoffdjijaaGreat
/- Plain law of TopCayley: the complete graph. -/
namespace Go.Proofs.YtocgehoffdjijaaGreat
open Gv
set_option maxRecDepth 20000
/-- The pairs of a row. -/
def rwE (a j : Nat) : List (Nat × Nat) := (List.range' (a + 1) (j - (a + 1))).map fun b => (a, b)
/-- The pairs of the rows before one. -/
def cE (n : Nat) : Nat → List (Nat × Nat)
  | 0 => []
  | i + 1 => cE n i ++ rwE i n
def matE (p : Nat) (E : List (Nat × Nat)) : Nat → Nat → Nat → Nat
  | 0 => fun _ _ => 0
  | k + 1 => stpF p (matE p E k) (E.getD k (0, 0)).2 (E.getD k (0, 0)).1
def netE (E : List (Nat × Nat)) (wt : Nat) : List N3 := E.map fun e => (e.2, e.1, wt)
def grE (E : List (Nat × Nat)) : List (Int × Int) := E.map fun e => ((e.1 : Int), (e.2 : Int))
theorem matE_eq {p wt : Nat} {E : List (Nat × Nat)} : ∀ k, k ≤ E.length → matF p (netE E wt) k = matE p E k
  | 0, _ => rfl
  | k + 1, hk => by
    simp only [matF, matE]
    rw [matE_eq k (by omega)]
    have : st (netE E wt) k = ((E.getD k (0, 0)).2, (E.getD k (0, 0)).1, wt) := by
      unfold st netE
      simp [List.getD, show k < E.length by omega]
    rw [this]
theorem mat1 : ∀ m, m < 9 → ∀ a, a < m + 1 → ∀ b, b < m + 1 → matE 2147483647 (cE (m + 2) (m + 2)) (cE (m + 2) (m + 2)).length a b = oXY (m + 1) 2147483646 a b := by decide +kernel
theorem mat2 : ∀ m, m < 9 → ∀ a, a < m + 1 → ∀ b, b < m + 1 → matE 2147483629 (cE (m + 2) (m + 2)) (cE (m + 2) (m + 2)).length a b = oXY (m + 1) 2147483628 a b := by decide +kernel
theorem cor1 : ∀ m, m < 9 → Bg.peC (grE (cE (m + 2) (m + 2))) (m + 2) (m + 2) = List.replicate (m + 2) ((m + 1 : Nat) : Int) := by decide +kernel
theorem cE_len : ∀ m, m < 9 → (cE (m + 2) (m + 2)).length ≤ 45 ∧ 2 * (cE (m + 2) (m + 2)).length = (m + 2) * (m + 1) := by decide +kernel
theorem cE_mem : ∀ m, m < 9 → ∀ e ∈ cE (m + 2) (m + 2), e.1 < e.2 ∧ e.2 < m + 2 := by decide +kernel
theorem cE_lnk : ∀ m, m < 9 → ∀ v, v < m + 1 → (cE (m + 2) (m + 2)).contains (0, v + 1) = true := by decide +kernel
theorem cE_isG : ∀ m, m < 9 → Bg.IsG ((m + 2 : Nat) : Int) (grE (cE (m + 2) (m + 2))) := by decide +kernel
theorem netE_st {E : List (Nat × Nat)} {wt k : Nat} (hk : k < E.length) : st (netE E wt) k = ((E.getD k (0, 0)).2, (E.getD k (0, 0)).1, wt) := by
  unfold st netE; simp [List.getD, hk]
theorem getD_memP {E : List (Nat × Nat)} {k : Nat} (hk : k < E.length) : E.getD k (0, 0) ∈ E := by
  rw [List.getD_eq_getElem?_getD, List.getElem?_eq_getElem hk]; exact List.getElem_mem hk
theorem netE_len (E : List (Nat × Nat)) (wt : Nat) : (netE E wt).length = E.length := by simp [netE]
theorem grE_len (E : List (Nat × Nat)) : (grE E).length = E.length := by simp [grE]
theorem cay_net {m wt : Nat} (hm : m < 9) (hw : wt ≤ 1000) : NetOk (m + 2) (netE (cE (m + 2) (m + 2)) wt) := by
  refine ⟨by omega, by omega, by rw [netE_len]; have := (cE_len m hm).1; omega, fun k hk => ?_⟩
  rw [netE_len] at hk
  rw [netE_st hk]
  have := cE_mem m hm _ (getD_memP hk)
  exact ⟨by dsimp only; omega, by dsimp only; omega, by dsimp only; omega, hw⟩
theorem cay_lnk {m wt : Nat} (hm : m < 9) : Linked (m + 2) (netE (cE (m + 2) (m + 2)) wt) := by
  intro v h1 h2
  obtain ⟨k, hk, e⟩ := List.getElem_of_mem (List.contains_iff_mem.1 (cE_lnk m hm (v - 1) (by omega)))
  rw [show v - 1 + 1 = v by omega] at e
  have hk' : (cE (m + 2) (m + 2)).getD k (0, 0) = (0, v) := by simp [List.getD, hk, e]
  refine ⟨k, by rw [netE_len]; exact hk, 0, by omega, .inr ?_⟩
  rw [netE_st hk, hk']
  exact ⟨rfl, rfl⟩
theorem cay_ok1 {m wt : Nat} (hm : m < 9) (hw : wt ≤ 1000) : CayOk (m + 2) (netE (cE (m + 2) (m + 2)) wt) wt 2147483647 ((m + 2) ^ m) := by
  have hc := cay1 m hm
  refine ⟨by omega, cay_net hm hw, fun k hk => ?_, cay_lnk hm, by decide, fun a b ha hb => ?_, hc.1, by omega, hc.2, ?_⟩
  · rw [netE_len] at hk; rw [netE_st hk]
  · rw [netE_len, matE_eq _ (Nat.le_refl _)]; exact mat1 m hm a ha b hb
  · have : ∀ m, m < 9 → (m + 2) ^ m < 2147483647 := by decide
    exact this m hm
theorem cay_ok2 {m wt : Nat} (hm : m < 9) (hw : wt ≤ 1000) : CayOk (m + 2) (netE (cE (m + 2) (m + 2)) wt) wt 2147483629 ((m + 2) ^ m) := by
  have hc := cay2 m hm
  refine ⟨by omega, cay_net hm hw, fun k hk => ?_, cay_lnk hm, by decide, fun a b ha hb => ?_, hc.1, by omega, hc.2, ?_⟩
  · rw [netE_len] at hk; rw [netE_st hk]
  · rw [netE_len, matE_eq _ (Nat.le_refl _)]; exact mat2 m hm a ha b hb
  · have : ∀ m, m < 9 → (m + 2) ^ m < 2147483629 := by decide
    exact this m hm
/-- All vertices together are the densest set. -/
theorem cay_dens {m : Nat} (hm : m < 9) {T : List Int} (h : Bg.Dens ((m + 2 : Nat) : Int) (grE (cE (m + 2) (m + 2))) T) :
    T.length = m + 2 ∧ Bg.dnum (grE (cE (m + 2) (m + 2))) T * 2 = (m + 1) * Bg.dden (grE (cE (m + 2) (m + 2))) T ∧ 1 ≤ Bg.dden (grE (cE (m + 2) (m + 2))) T ∧ Bg.dden (grE (cE (m + 2) (m + 2))) T ≤ 11 ∧ Bg.dnum (grE (cE (m + 2) (m + 2))) T ≤ 45 := by
  obtain ⟨L, hL⟩ : ∃ L, L = grE (cE (m + 2) (m + 2)) := ⟨_, rfl⟩
  have hG : Bg.IsG ((m + 2 : Nat) : Int) L := by rw [hL]; exact cE_isG m hm
  have hlen : 2 * L.length = (m + 2) * (m + 1) ∧ L.length ≤ 45 := by rw [hL, grE_len]; exact ⟨(cE_len m hm).2, (cE_len m hm).1⟩
  rw [← hL] at h ⊢
  have hE : ∀ k, k < L.length → (0 ≤ (Bg.ed L k).1 ∧ (Bg.ed L k).1 < (Bg.ed L k).2 ∧ (Bg.ed L k).2 < ((m + 2 : Nat) : Int)) ∧ ∀ j, j < k → Bg.ed L j ≠ Bg.ed L k := hG.2.2
  have h1 := h.best (Bg.allV (m + 2)) (Bg.allV_nodup _) fun v hv => Bg.allV_mem.1 hv
  rw [Bg.insM_all fun k hk => (hE k hk).1, Bg.allV_len] at h1
  have h2 := Bg.insM_pairs hE h.asc.nodup h.rng
  have hTl := Bg.range_len (m + 2) T h.asc.nodup h.rng
  have hpos := h.pos
  obtain ⟨x, hx⟩ : ∃ x : Int, x = Bg.insM L T := ⟨_, rfl⟩
  obtain ⟨l, hl⟩ : ∃ l : Int, l = (L.length : Int) := ⟨_, rfl⟩
  obtain ⟨t, ht⟩ : ∃ t : Int, t = (T.length : Int) := ⟨_, rfl⟩
  have hl2 : 2 * l = ((m : Int) + 2) * ((m : Int) + 1) := by rw [hl]; exact_mod_cast hlen.1
  rw [← hx, ← hl, ← ht] at h1
  rw [← hx, ← ht] at h2
  have hT : T.length = m + 2 := by
    have e1 : (t * ((m : Int) + 2)) * ((m : Int) + 1) ≤ (t * ((m : Int) + 2)) * (t - 1) := by
      have a1 : 2 * l * t ≤ 2 * x * ((m : Int) + 2) := by
        have := h1
        push_cast at this
        grind
      have a2 : 2 * x * ((m : Int) + 2) ≤ (t - 1) * t * ((m : Int) + 2) := Int.mul_le_mul_of_nonneg_right h2 (by omega)
      rw [hl2] at a1
      grind
    have := Int.le_of_mul_le_mul_left e1 (Int.mul_pos (by omega) (by omega))
    omega
  have hall : ∀ v, v ∈ T ↔ v ∈ Bg.allV (m + 2) := fun v => ⟨fun hv => Bg.allV_mem.2 (h.rng v hv), fun hv => by
    refine Decidable.byContradiction fun hn => ?_
    have := Bg.sub_len (F := v :: T) (S := Bg.allV (m + 2)) (List.nodup_cons.2 ⟨hn, h.asc.nodup⟩) fun u hu => by
      rcases List.mem_cons.1 hu with rfl | hu
      · exact hv
      · exact Bg.allV_mem.2 (h.rng u hu)
    rw [Bg.allV_len, List.length_cons] at this
    omega⟩
  have hins : Bg.insE L T L.length = L.length := by
    have e1 := Bg.insE_insM (L := L) (S := T)
    rw [Bg.insM_congr hall, Bg.insM_all fun k hk => (hE k hk).1] at e1
    omega
  unfold Bg.dnum Bg.dden
  rw [hins, hT]
  have hr := Bg.red_same (a := L.length) (b := m + 2)
  have hle := Bg.red_le (a := L.length) (b := m + 2)
  have hp := Bg.red_pos (a := L.length) (b := m + 2) (by omega)
  refine ⟨rfl, ?_, hp, by omega, by omega⟩
  obtain ⟨a, ha⟩ : ∃ a, a = L.length / Nat.gcd L.length (m + 2) := ⟨_, rfl⟩
  obtain ⟨b, hb⟩ : ∃ b, b = (m + 2) / Nat.gcd L.length (m + 2) := ⟨_, rfl⟩
  rw [← ha, ← hb] at hr ⊢
  have h3 : (m + 2) * (a * 2) = (m + 2) * ((m + 1) * b) := by
    have h4 := hlen.1
    have h5 : (m + 2) * (a * 2) = 2 * (a * (m + 2)) := by grind
    rw [h5, hr]
    have h6 : 2 * (b * L.length) = b * (2 * L.length) := by grind
    rw [h6, h4]; grind
  exact Nat.eq_of_mul_eq_mul_left (by omega) h3
end Go.Proofs.YtocgehoffdjijaaGreat
/- TopCayley, walked. -/
namespace Go.Proofs.YtocgehoffdjijaaGreat
open Gv
set_option maxRecDepth 20000
theorem fo47_0 : fldOff Tryz.prog 47 0 = some 0 := by kernel_rfl
theorem fo47_1 : fldOff Tryz.prog 47 1 = some 1 := by kernel_rfl
theorem r_mul_u {P : Program} {st : Bool} {K : Env → World → Prop} {ρ : Env} {w : World} {d : Nat} {ty t t2 : TypeId} {pos : String} {aft : Array Edge} {gd : Option (Nat × Bool)} {x y : Operand} {a b c : Int} (hx : ev ρ x = .int .i64 a) (hy : ev ρ y = .int .i64 b) (hb : -9223372036854775808 ≤ c ∧ c ≤ 9223372036854775807) (hc : a * b = c) (h : K (up ρ d (.int .i64 c)) w) :
    w1 P st ⟨some d, .binOp .mul t x y t2, ty, pos, aft, gd⟩ K ρ w := r_mul_in hx hy (by rw [hc]; exact hb) (by rw [hc]; exact h)
/-- An owned list of streets. -/
def OwnS (w : World) (base : Nat) (v : Value) (S : List N3) : Prop := w.ownsRow base 60 3 v S.length (trc S)
theorem OwnS.trip {w : World} {base : Nat} {v : Value} {S : List N3} (h : OwnS w base v S) : Trip w v S := ownsRow_sl h
theorem OwnS.nil (w : World) (base : Nat) : OwnS w base (.slice none 0 0) [] := World.ownsRow_nil _ _ _ _
theorem rwE_nil (i : Nat) : rwE i (i + 1) = [] := by unfold rwE; simp
theorem rwE_succ {i j : Nat} (h : i + 1 ≤ j) : rwE i (j + 1) = rwE i j ++ [(i, j)] := by
  unfold rwE
  rw [show j + 1 - (i + 1) = (j - (i + 1)) + 1 by omega, List.range'_concat, List.map_append]
  simp <;> omega
theorem netE_app (A : List (Nat × Nat)) (e : Nat × Nat) (wt : Nat) : netE (A ++ [e]) wt = netE A wt ++ [(e.2, e.1, wt)] := by simp [netE]
theorem grE_app (A : List (Nat × Nat)) (e : Nat × Nat) : grE (A ++ [e]) = grE A ++ [((e.1 : Int), (e.2 : Int))] := by simp [grE]
theorem cE_le : ∀ m, m < 9 → ∀ i, i < m + 3 → (cE (m + 2) i).length ≤ 45 := by decide +kernel
theorem rwE_le (i j : Nat) : (rwE i j).length ≤ j := by unfold rwE; simp <;> omega
theorem pow_b : ∀ m, m < 9 → ∀ j, j < 9 → j ≤ m → (m + 2) ^ j ≤ 100000000 := by decide
set_option maxHeartbeats 16000000 in
theorem TopCayley_true (n0 wt0 : Int) (w : World) :
    Calls Tryz.prog 6 #[.int .i64 n0, .int .i64 wt0] w (Ret fun v w' => v = .bool true ∧ Ext w w') := by
  refine calls_of_wc (args := [.int .i64 n0, .int .i64 wt0]) Tryz.func6 rfl ?_ ?_; kernel_rfl
  repeat' (first|refine za ?_|refine zA ?_|refine zB ?_|refine zb ?_|refine zc ?_|refine ze ?_|refine zd ?_)
  (refine r_call_q (v := ?_) rfl ?_ ?_; rotate_left 1; focus exact mod9 n0 9 w (by decide))
  have hb := mod9_bnd n0 (n := 9) (by decide)
  obtain ⟨m, hm⟩ : ∃ m : Nat, (IntKind.u64.wrap n0) % 9 = m := ⟨_, (Int.toNat_of_nonneg hb.1).symm⟩
  rw [hm] at hb ⊢
  have hm9 : m < 9 := by omega
  clear hm
  have hbw := mod9_bnd wt0 (n := 1001) (by decide)
  obtain ⟨wt, hwt⟩ : ∃ wt : Nat, (IntKind.u64.wrap wt0) % 1001 = wt := ⟨_, (Int.toNat_of_nonneg hbw.1).symm⟩
  rw [hwt] at hbw
  obtain ⟨n, hn⟩ : ∃ n, n = m + 2 := ⟨_, rfl⟩
  repeat' (first|refine za ?_|refine zB ?_|refine zb ?_|refine zc ?_|refine ze ?_|refine zd ?_|refine zI ?_|refine zl ?_)
  rw [show 2 + (m : Int) = (n : Int) by omega]
  refine wc_loop3 [0, 1, 4] (fun (i : Nat) (u v : Value) => [(5, u), (6, v), (7, .int .i64 i)]) (fun i u v wk => i ≤ n ∧ OwnS wk w.heap.size u (netE (cE n i) wt) ∧ OwnP wk w.heap.size 40 v (grE (cE n i)) ∧ (∀ g, u.ownBlock = some g → v.ownBlock ≠ some g) ∧ Ext w wk) (fun i _ _ => n - i) 0 (.slice none 0 0) (.slice none 0 0) rfl ⟨rfl, rfl, rfl, trivial⟩
    ⟨by omega, OwnS.nil _ _, OwnP.nil _ _ _, (fun g hg => by cases hg), Ext.refl _⟩ ?_
  rintro i u v wk x ⟨hi, hU, hV, hd, hE⟩
  by_cases hin : i < n
  · repeat' (first|refine za ?_|refine zA ?_|refine zB ?_|refine zb ?_|refine zc ?_|refine ze ?_|refine zd ?_|refine zC ?_|refine zI ?_|refine zX ?_|refine zk ?_|refine zl ?_)
    refine wc_loop3 [0, 1, 4, 7] (fun (j : Nat) (u v : Value) => [(5, u), (6, v), (8, .int .i64 j)]) (fun j u v wz => i + 1 ≤ j ∧ j ≤ n ∧ OwnS wz w.heap.size u (netE (cE n i ++ rwE i j) wt) ∧ OwnP wz w.heap.size 40 v (grE (cE n i ++ rwE i j)) ∧ (∀ g, u.ownBlock = some g → v.ownBlock ≠ some g) ∧ Ext w wz) (fun j _ _ => n - j) (i + 1) u v rfl ⟨rfl, rfl, rfl, trivial⟩
      ⟨by omega, by omega, by rw [rwE_nil, List.append_nil]; exact hU, by rw [rwE_nil, List.append_nil]; exact hV, hd, hE⟩ ?_
    clear hU hV hd hE
    rintro j u v wz y ⟨hij, hj, hU, hV, hd, hE⟩
    have hl1 := cE_le m hm9 i (by omega)
    rw [← hn] at hl1
    have hl2 := rwE_le i j
    have hlS : (netE (cE n i ++ rwE i j) wt).length ≤ 60 := by rw [netE_len, List.length_append]; omega
    have hlG : (grE (cE n i ++ rwE i j)).length ≤ 60 := by rw [grE_len, List.length_append]; omega
    by_cases hjn : j < n
    · obtain ⟨qu, cu, rfl, _⟩ := hU.trip.slice
      obtain ⟨qv, cv, rfl, _⟩ := hV.pairs.slice
      repeat' (first|refine za ?_|refine zA ?_|refine zb ?_|refine zc ?_|refine ze ?_|refine zd ?_|refine zC ?_|refine zX ?_|refine zk ?_|refine zl ?_)
      (refine r_call_q (v := ?_) rfl ?_ ?_; rotate_left 1; focus exact mod9 wt0 1001 wz (by decide))
      rw [hwt]
      repeat' (refine za ?_)
      refine r_build (cells := #[.int .i64 (j : Int), .int .i64 (i : Int), .int .i64 (wt : Int)]) (bt60 j i wt) ?_
      repeat' (refine za ?_)
      refine r_buildS1t (a := j) (b := i) (c := wt) eT58 rfl fun w1 h1 hE1 hs1 => ?_
      repeat' (refine za ?_)
      refine r_append (n := (netE (cE n i ++ rwE i j) wt).length) (m := 1) (xs := trc (netE (cE n i ++ rwE i j) wt)) (news := [.int .i64 (j : Int), .int .i64 (i : Int), .int .i64 (wt : Int)]) (base := w.heap.size) eT58 rfl (by decide) (by decide) (ownsRow_ext hU hE1) h1 rfl rfl (by intro q hq; simp at hq; rcases hq with rfl | rfl | rfl <;> rfl) (by omega) (hE.trans hE1).size ?_
      intro u2 w2 hU2 hg2 _ hgb2
      have hU2' : OwnS w2 w.heap.size u2 (netE (cE n i ++ rwE i (j + 1)) wt) := by
        have e : netE (cE n i ++ rwE i (j + 1)) wt = netE (cE n i ++ rwE i j) wt ++ [(j, i, wt)] := by rw [rwE_succ hij, ← List.append_assoc, netE_app]
        have e2 : trc (netE (cE n i ++ rwE i j) wt ++ [(j, i, wt)]) = trc (netE (cE n i ++ rwE i j) wt) ++ [.int .i64 (j : Int), .int .i64 (i : Int), .int .i64 (wt : Int)] := by rw [trc_append]; rfl
        rw [e]
        show w2.ownsRow w.heap.size 60 3 u2 (netE (cE n i ++ rwE i j) wt ++ [(j, i, wt)]).length (trc (netE (cE n i ++ rwE i j) wt ++ [(j, i, wt)]))
        rw [e2, List.length_append]
        exact hU2
      have hC2 := Ch.grown hg2 (S := fun k => (Value.slice qu (netE (cE n i ++ rwE i j) wt).length cu).ownBlock = some k) fun k e => e
      have hV2 : OwnP w2 w.heap.size 40 (.slice qv (grE (cE n i ++ rwE i j)).length cv) (grE (cE n i ++ rwE i j)) := ownsRow_keep (ownsRow_ext hV hE1) hC2 fun g hg e => hd g e hg
      have hE2 : Ext w w2 := Ch.trans' (hE.trans hE1) hC2 fun k hk e => by have := (World.ownsRow.lt hU k e).1; omega
      have hd2 : ∀ g, u2.ownBlock = some g → (Value.slice qv (grE (cE n i ++ rwE i j)).length cv).ownBlock ≠ some g := fun g hg e => by
        rcases hgb2 g hg with h5 | h5
        · exact hd g h5 e
        · have := (World.ownsRow.lt hV g e).2; have := hE1.size; omega
      repeat' (first|refine za ?_|refine zA ?_|refine zB ?_|refine zb ?_|refine ze ?_|refine zd ?_)
      refine r_build (cells := #[.int .i64 (i : Int), .int .i64 (j : Int)]) (bt40 i j) ?_
      repeat' (refine za ?_)
      refine r_append1_p eT37 (by decide) hV2 rfl rfl (by omega) hE2.size fun v3 w3 _ hV3 hG3 hne3 hgb3 => ?_
      have hC3 := Ch.grown hG3 (S := fun k => (Value.slice qv (grE (cE n i ++ rwE i j)).length cv).ownBlock = some k) fun k e => e
      have hE3 : Ext w w3 := Ch.trans' hE2 hC3 fun k hk e => by have := (World.ownsRow.lt hV k e).1; omega
      have hU3 : OwnS w3 w.heap.size u2 (netE (cE n i ++ rwE i (j + 1)) wt) := ownsRow_keep hU2' hC3 fun g hg e => hd2 g hg e
      have hV3' : OwnP w3 w.heap.size 40 v3 (grE (cE n i ++ rwE i (j + 1))) := by rw [rwE_succ hij, ← List.append_assoc, grE_app]; exact hV3
      repeat' (first|refine za ?_|refine zA ?_|refine zB ?_|refine zb ?_|refine ze ?_|refine zd ?_|refine zI ?_|refine zh ?_)
      have hd3 : ∀ g, u2.ownBlock = some g → v3.ownBlock ≠ some g := fun g hg e => by
        rcases hgb3 g e with h5 | h5
        · exact hd2 g hg h5
        · have := (World.ownsRow.lt hU2' g hg).2; omega
      exact ⟨j + 1, u2, v3, ⟨rfl, rfl, rfl, trivial⟩, ⟨by omega, by omega, hU3, hV3', hd3, hE3⟩, by omega⟩
    · obtain rfl : n = j := by omega
      repeat' (first|refine za ?_|refine zA ?_|refine zB ?_|refine zb ?_|refine zc ?_|refine ze ?_|refine zd ?_|refine zC ?_|refine zI ?_|refine zY ?_|refine zm ?_|refine zg ?_|refine zj ?_|refine zh ?_)
      exact ⟨i + 1, u, v, ⟨rfl, rfl, rfl, trivial⟩, ⟨by omega, hU, hV, hd, hE⟩, by omega⟩
  obtain rfl : n = i := by omega
  obtain ⟨qu, cu, eu, _⟩ := hU.trip.slice
  obtain ⟨qv, cv, ev', _⟩ := hV.pairs.slice
  subst eu
  subst ev'
  rw [netE_len, grE_len] at *
  have hce := cE_len m hm9
  rw [← hn] at hce
  obtain ⟨El, hEl⟩ : ∃ El, El = (cE n n).length := ⟨_, rfl⟩
  rw [← hEl] at hce hU hV ⊢
  repeat' (first|refine za ?_|refine zA ?_|refine zB ?_|refine zb ?_|refine zc ?_|refine ze ?_|refine zd ?_|refine zC ?_|refine zY ?_|refine zl ?_|refine zm ?_|refine zg ?_|refine zj ?_)
  refine wc_loop [0, 4, 5, 6] (fun (j : Nat) => [(9, .int .i64 ((n ^ j : Nat) : Int)), (10, .int .i64 ((j + 2 : Nat) : Int))]) (fun j wz => j ≤ m ∧ wz = wk) (fun j => m - j) 0 rfl ⟨rfl, rfl, trivial⟩ ⟨by omega, rfl⟩ ?_
  rintro j wz y ⟨hj, rfl⟩
  have hpb : n ^ j ≤ 100000000 := by rw [hn]; exact pow_b m hm9 j (by omega) hj
  by_cases hjm : j < m
  · have hpb2 : n ^ (j + 1) ≤ 100000000 := by rw [hn]; exact pow_b m hm9 (j + 1) (by omega) (by omega)
    have hps : n ^ j * n = n ^ (j + 1) := (Nat.pow_succ ..).symm
    obtain ⟨a0, ha0⟩ : ∃ a, a = n ^ j := ⟨_, rfl⟩
    obtain ⟨a1, ha1⟩ : ∃ a, a = n ^ (j + 1) := ⟨_, rfl⟩
    rw [← ha0, ← ha1] at hps
    rw [← ha1] at hpb2
    rw [← ha0] at hpb ⊢
    repeat' (first|refine za ?_|refine zA ?_|refine zb ?_|refine zc ?_|refine ze ?_|refine zd ?_|refine zC ?_|refine zX ?_|refine zk ?_|refine zl ?_)
    refine r_mul_n (a := a0) (b := n) (c := a1) rfl rfl (by omega) hps ?_
    repeat' (first|refine za ?_|refine zA ?_|refine zB ?_|refine zb ?_|refine ze ?_|refine zd ?_|refine zI ?_|refine zh ?_)
    exact ⟨j + 1, ⟨congrArg (Value.int .i64) (by rw [ha1]), rfl, trivial⟩, ⟨by omega, rfl⟩, by omega⟩
  obtain rfl : m = j := by omega
  have hok1 := cay_ok1 (wt := wt) hm9 (by omega)
  have hok2 := cay_ok2 (wt := wt) hm9 (by omega)
  rw [← hn] at hok1 hok2
  obtain ⟨Dn, hDn⟩ : ∃ Dn, Dn = n ^ m := ⟨_, rfl⟩
  rw [← hDn] at hok1 hok2 hpb ⊢
  have hCnt := Count_all n (netE (cE n n) wt) wt Dn hok1 hok2 qu cu wz (by rw [netE_len, ← hEl]; exact hU.trip)
  rw [netE_len, ← hEl] at hCnt
  repeat' (first|refine za ?_|refine zA ?_|refine zb ?_|refine zc ?_|refine ze ?_|refine zd ?_|refine zC ?_|refine zY ?_|refine zm ?_|refine zg ?_|refine zj ?_)
  (refine r_call (R := ?_) rfl ?_ ?_; rotate_left 1; focus exact hCnt)
  rintro _ w2 ⟨rfl, hE2⟩
  have hL2 : Pairs2 w2 (.slice qv El cv) (grE (cE n n)) := hV.pairs.ext hE2
  have hle : (grE (cE n n)).length ≤ 1000 := by rw [grE_len]; omega
  have hiG : Bg.IsG (n : Int) (grE (cE n n)) := by rw [hn]; exact cE_isG m hm9
  repeat' (first|refine za ?_|refine zA ?_|refine zB ?_|refine zb ?_|refine zc ?_|refine ze ?_|refine zd ?_|refine zS ?_)
  (refine r_call (R := ?_) rfl ?_ ?_; rotate_left 1; focus exact Bg.densest_any (n : Int) (.slice qv El cv) (grE (cE n n)) w2 hL2 hle fun g hg => by have := (World.ownsRow.lt hV g hg).2; have := hE2.size; omega)
  rintro v3 w3 ⟨hD3, hE3⟩
  unfold Bg.DensR at hD3
  rw [if_pos hiG] at hD3
  obtain ⟨T, Sh, vs, vsh, rfl, hvs, hvsh, _, hDens, _⟩ := hD3
  have hcd := hDens
  rw [hn] at hcd
  obtain ⟨c1, c2, c3, c4, c5⟩ := cay_dens hm9 hcd
  rw [← hn] at c1 c2 c3 c4 c5
  obtain ⟨dn, hdn⟩ : ∃ dn, dn = Bg.dnum (grE (cE n n)) T := ⟨_, rfl⟩
  obtain ⟨dd, hdd⟩ : ∃ dd, dd = Bg.dden (grE (cE n n)) T := ⟨_, rfl⟩
  rw [← hdn, ← hdd] at c2 ⊢
  rw [← hdd] at c3 c4
  rw [← hdn] at c5
  obtain ⟨qs, cs, rfl, _⟩ := hvs.ints.slice
  obtain ⟨qh, ch, rfl, _⟩ := hvsh.pairs.slice
  obtain ⟨pp, hpp⟩ : ∃ pp, pp = dn * 2 := ⟨_, rfl⟩
  have hpi : ((n : Int) - 1) * (dd : Int) = (pp : Int) := by
    rw [hpp, c2, Int.natCast_mul]; congr 1; omega
  have hpp2 : (dn : Int) * 2 = (pp : Int) := by omega
  repeat' (first|refine za ?_|refine zA ?_|refine zS ?_)
  refine r_allocN zT47 fun w4 hb4 hE4 hs4 => ?_
  obtain ⟨b4, eb4⟩ : ∃ b, b = w3.heap.size := ⟨_, rfl⟩
  rw [← eb4] at hb4 ⊢
  repeat' (first|refine za ?_|refine zB ?_)
  refine r_stN (ws := [.int .i64 dn, .int .i64 dd]) aT47 (by decide) hb4 rfl rfl rfl rfl (by intro q hq; simp at hq; rcases hq with rfl | rfl <;> rfl) fun w5 h5 hC5 hs5 => ?_
  have hE35 : Ext w3 w5 := Ch.trans' hE4 hC5 fun k hk e => by omega
  have hE25 := hE3.trans hE35
  repeat' (first|refine za ?_|refine zA ?_|refine zB ?_|refine zb ?_|refine zc ?_|refine ze ?_|refine zd ?_)
  (refine r_call (R := ?_) rfl ?_ ?_; rotate_left 1; focus exact Bg.cores_any (n : Int) (.slice qv El cv) (grE (cE n n)) w5 (hL2.ext hE25) hle fun g hg => by have := (World.ownsRow.lt hV g hg).2; have := (hE2.trans hE25).size; omega)
  rintro v6 w6 ⟨hc6, hE6⟩
  unfold Bg.CoresR at hc6
  rw [if_pos hiG] at hc6
  obtain ⟨vc, rfl, hvc⟩ := hc6
  have hcor := cor1 m hm9
  rw [← hn] at hcor
  rw [show ((n : Nat) : Int).toNat = n from Int.toNat_natCast n, hcor] at hvc
  obtain ⟨qc, cc, rfl, _⟩ := hvc.ints.slice
  have hcl : (List.replicate n ((m + 1 : Nat) : Int)).length = n := by simp
  rw [hcl] at hvc ⊢
  have h56 := h5.ext hE6
  have gn := h56.rd (k := 0) rfl
  have gd := h56.rd (k := 1) rfl
  repeat' (first|refine za ?_|refine zA ?_|refine zB ?_|refine zb ?_|refine zc ?_|refine ze ?_|refine zd ?_|refine zH ?_|refine zK ?_|refine zR ?_|refine zS ?_|refine zU ?_)
  refine r_fa fo47_1 rfl ?_
  repeat' (first|refine za ?_|refine zA ?_|refine zC ?_|refine zM ?_|refine zR ?_|refine zU ?_)
  refine r_fa fo47_0 rfl ?_
  repeat' (first|refine zM ?_|refine zU ?_)
  refine r_mul_u (c := (pp : Int)) rfl rfl (by omega) hpp2 ?_
  repeat' (first|refine zA ?_|refine zJ ?_|refine zU ?_)
  refine r_fa fo47_1 rfl ?_
  repeat' (first|refine zM ?_|refine zU ?_)
  refine r_mul_u (c := (pp : Int)) rfl rfl (by omega) hpi ?_
  repeat' (first|refine za ?_|refine zA ?_|refine zB ?_|refine zb ?_|refine zc ?_|refine ze ?_|refine zd ?_|refine zH ?_|refine zK ?_|refine zR ?_|refine zU ?_|refine zY ?_|refine zk ?_|refine zl ?_)
  refine wc_loop [0, 17] (fun (i : Nat) => [(4, .bool false), (19, .int .i64 i)]) (fun i wy => i ≤ n ∧ wy = w6) (fun i => n - i) 0 rfl ⟨rfl, rfl, trivial⟩ ⟨by omega, rfl⟩ ?_
  rintro i wy y2 ⟨hi2, rfl⟩
  by_cases hin2 : i < n
  · have hps := hvc.ints.isSome (by rw [hcl]; omega)
    have hrd := hvc.ints.rd (i := i) (by rw [hcl]; exact hin2)
    rw [show (List.replicate n ((m + 1 : Nat) : Int)).getD i 0 = ((m + 1 : Nat) : Int) by simp [List.getD, hin2]] at hrd
    repeat' (first|refine za ?_|refine zA ?_|refine zB ?_|refine zb ?_|refine zc ?_|refine ze ?_|refine zd ?_|refine zC ?_|refine zH ?_|refine zI ?_|refine zJ ?_|refine zL ?_|refine zM ?_|refine zX ?_|refine zY ?_|refine zk ?_|refine zl ?_|refine zh ?_)
    exact ⟨i + 1, ⟨rfl, rfl, trivial⟩, ⟨by omega, rfl⟩, by omega⟩
  repeat' (first|refine za ?_|refine zA ?_|refine zb ?_|refine zc ?_|refine ze ?_|refine zd ?_|refine zC ?_|refine zY ?_|refine zm ?_|refine zg ?_|refine zj ?_)
  (refine r_call (R := ?_) rfl ?_ ?_; rotate_left 1; focus exact four_any wy)
  rintro _ w9 ⟨rfl, hE9⟩
  repeat' (first|refine za ?_|refine zB ?_|refine zb ?_|refine ze ?_|refine zn ?_)
  refine post1 (v := .bool true) rfl rfl ?_
  exact ⟨rfl, (((hE.trans hE2).trans hE25).trans hE6).trans hE9⟩
end Go.Proofs.YtocgehoffdjijaaGreat
