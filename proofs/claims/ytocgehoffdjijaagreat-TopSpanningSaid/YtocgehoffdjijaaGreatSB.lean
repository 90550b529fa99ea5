/- top: streets: tree; the order of one street; power; top: streets: the order of one street; powers; top: streets: powers; the determinant and the sums where there is one row. -/
import Derived.Test.YtocgehoffdjijaaGreatSA
/- top: streets: tree; the order of one street; power. -/
namespace Go.Proofs.YtocgehoffdjijaaGreat
open Gv
set_option maxRecDepth 20000
/-- The order of a net's streets. -/
def OrdOf (S : List N3) (O : List Nat) : Prop := ∀ (n : Nat) (q : Option Addr) (c : Nat) (w : World), Trip w (.slice q S.length c) S →
  Calls Tryz.prog 103 #[.agg (netV n q S.length c).toArray] w (Ret fun v w' => OwnI w' w.heap.size 3 v (ni O) ∧ Ext w w')
set_option maxHeartbeats 4000000 in
theorem tree60 (n : Nat) (q : Option Addr) (c : Nat) (S : List N3) (O : List Nat) (w : World) (h : Trip w (.slice q S.length c) S) (hn : NetOk n S) (hO : OrdOf S O) (hOk : ∀ i, i < O.length → O.getD i 0 < S.length) (hOl : O.length ≤ 60) :
    Calls Tryz.prog 60 #[.agg (netV n q S.length c).toArray] w (Ret fun r w' => ∃ v, r = .tuple #[v, .bool (decide ((jst S O O.length).2 + 1 = n))] ∧ OwnI w' w.heap.size 3 v (ni (tst S O O.length)) ∧ Ext w w') := by
  have hsl := hn.len
  have hn16 := hn.n16
  have hn1 := hn.n1
  refine calls_of_wc (args := [.agg (netV n q S.length c).toArray]) Tryz.func60 rfl ?_ ?_; kernel_rfl
  repeat' (first|refine za ?_|refine zc ?_|refine zd ?_)
  refine r_boxN (cells := netV n q S.length c) rfl fun w1 hb1 hE1 hs1 => ?_
  obtain ⟨b1, eb1⟩ : ∃ b, b = w.heap.size := ⟨_, rfl⟩
  rw [← eb1] at hb1 ⊢
  repeat' (first|refine za ?_|refine zB ?_|refine zb ?_|refine zc ?_|refine ze ?_|refine zd ?_)
  (refine r_call (R := ?_) rfl ?_ ?_; rotate_left 1; focus exact apart_any _)
  rintro _ w2 ⟨rfl, hb2, hE2⟩
  obtain ⟨b2, eb2⟩ : ∃ b, b = w1.heap.size := ⟨_, rfl⟩
  rw [← eb2] at hb2 ⊢
  have hne : b1 ≠ b2 := by omega
  repeat' (first|refine za ?_|refine zB ?_|refine zb ?_|refine zc ?_|refine ze ?_|refine zd ?_)
  refine r_ldN (vs := netV n q S.length c) ag117 (by decide) (hb1.ext hE2) rfl rfl ?_
  repeat' (refine za ?_)
  (refine r_call (R := ?_) rfl ?_ ?_; rotate_left 1; focus exact hO n q c w2 (h.ext (hE1.trans hE2)))
  rintro vo w3 ⟨hvo, hE3⟩
  obtain ⟨qo, co, rfl, hqo⟩ := hvo.ints.slice
  have hio := hvo.ints
  rw [ni_len] at hqo ⊢
  rw [ni_len] at hio
  repeat' (first|refine za ?_|refine zA ?_|refine zb ?_|refine ze ?_|refine zK ?_|refine zl ?_)
  have hb13 := hb1.ext (hE2.trans hE3)
  have hb23 : PrB w3 b2 (jst S O 0).1 := hb2.ext hE3
  have hsz2 := hE2.size
  refine wc_loop2 [1, 4, 10, 11] (fun (i : Nat) (v : Value) => [(5, v), (12, .int .i64 i)]) (fun i v wk => i ≤ O.length ∧ PrB wk b2 (jst S O i).1 ∧ OwnI wk w3.heap.size 3 v (ni (tst S O i)) ∧ Ch (fun k => k = b2) w3 wk) (fun i _ => O.length - i) 0 (.slice none 0 0) rfl ⟨rfl, rfl, trivial⟩ ⟨by omega, hb23, World.ownsRow_nil _ _ _ _, Ch.refl _ _⟩ ?_
  rintro i v wk x ⟨hi, hbk, hvk, hCk⟩
  have hEk : Ext w wk := Ch.trans' ((hE1.trans hE2).trans hE3) hCk fun k hk e => by omega
  obtain ⟨qv, cv, rfl, hqv⟩ := hvk.ints.slice
  have htl := tst_len S O i
  have hcl := jst_le S O i
  by_cases hin : i < O.length
  · have hps := hio.isSome (by rw [ni_len]; omega)
    have hrd := (hio.keep hCk fun g hg e => by have := (hvo.lt g (by rw [ni_len]; exact hg)).1; have := hb2.lt; omega).rd (i := i) (by rw [ni_len]; omega)
    rw [ni_get] at hrd
    have hkS := hOk i hin
    have hok := hn.ok _ hkS
    have hpar := jst_par hn hOk i (by omega)
    have hj1 : (jst S O (i + 1)).1 = joU (jst S O i).1 (st S (O.getD i 0)).1 (st S (O.getD i 0)).2.1 := rfl
    have hj2 : tst S O (i + 1) = if ofU (jst S O i).1 (st S (O.getD i 0)).1 = ofU (jst S O i).1 (st S (O.getD i 0)).2.1 then tst S O i else tst S O i ++ [O.getD i 0] := rfl
    obtain ⟨s0, s1, s2⟩ := (h.ext (hEk.trans (Ext.drew wk))).rd (i := O.getD i 0) hkS
    have hqs := h.isSome (by omega)
    change rd wk.drew ((pidx q (O.getD i 0) 3).map fun a => a.add 0) = some (.int .i64 (st S (O.getD i 0)).1) at s0
    change rd wk.drew ((pidx q (O.getD i 0) 3).map fun a => a.add 1) = some (.int .i64 (st S (O.getD i 0)).2.1) at s1
    clear s2
    obtain ⟨ha, hb, _, _⟩ := hok
    generalize (st S (O.getD i 0)).1 = a at *
    generalize (st S (O.getD i 0)).2.1 = bb at *
    generalize O.getD i 0 = k at *
    generalize (jst S O i).1 = J at *
    have hb1d : Blk wk.drew b1 117 (netV n q S.length c) := ((hb13.keep hCk hne).ext (Ext.drew wk))
    have gq : rd wk.drew (some ⟨b1, 0 + 1, none⟩) = some (.slice q S.length c) := hb1d.rd rfl
    have hjn := join_any b2 a bb J wk.drew (hbk.ext (Ext.drew wk)) hpar (by omega) (by omega)
    repeat' (first|refine za ?_|refine zB ?_|refine zb ?_|refine zc ?_|refine ze ?_|refine zd ?_|refine zC ?_|refine zL ?_|refine zM ?_|refine zX ?_|refine zk ?_|refine zl ?_)
    (refine wc_drawn 13 (by kernel_rfl) (by kernel_rfl) ?_; simp only [List.take_succ_cons, List.take_zero, List.drop_succ_cons, List.drop_zero])
    repeat' (first|refine za ?_|refine zA ?_)
    refine r_fa fo117_1 rfl ?_
    repeat' (first|refine za ?_|refine zA ?_|refine zM ?_)
    refine r_idx sz58 rfl rfl hqs (by omega) (by omega) ?_
    repeat' (refine za ?_)
    refine r_faQ fo60_0 rfl (pidx_isSome hqs) ?_
    repeat' (first|refine za ?_|refine zM ?_)
    refine r_fa fo117_1 rfl ?_
    repeat' (first|refine za ?_|refine zA ?_|refine zM ?_)
    refine r_idx sz58 rfl rfl hqs (by omega) (by omega) ?_
    repeat' (refine za ?_)
    refine r_faQ fo60_1 rfl (pidx_isSome hqs) ?_
    repeat' (first|refine za ?_|refine zb ?_|refine zM ?_)
    (refine r_call (R := ?_) rfl ?_ ?_; rotate_left 1; focus exact hjn)
    rintro vb w5 ⟨hvb, hb5, hC5, hs5⟩
    have hv5 : OwnI w5 w3.heap.size 3 (.slice qv (ni (tst S O i)).length cv) (ni (tst S O i)) := ownsRow_keep (ownsRow_ext hvk (Ext.drew wk)) hC5 fun g hg e => by have := (hvk.lt g hg).1; have := hb23.lt; omega
    have hC5k : Ch (fun k => k = b2) w3 w5 := hCk.trans hC5.from_drew
    by_cases e : ofU J a = ofU J bb
    · rw [if_pos e] at hj2
      rw [show decide (ofU J a ≠ ofU J bb) = false by simp [e]] at hvb
      subst hvb
      repeat' (first|refine za ?_|refine zA ?_|refine zb ?_|refine ze ?_|refine zd ?_|refine zI ?_|refine zY ?_|refine zk ?_|refine zh ?_)
      exact ⟨i + 1, _, ⟨rfl, rfl, trivial⟩, ⟨by omega, by rw [hj1]; exact hb5, by rw [hj2]; exact hv5, hC5k⟩, by omega⟩
    · rw [if_neg e] at hj2
      rw [show decide (ofU J a ≠ ofU J bb) = true by simp [e]] at hvb
      subst hvb
      have hsz5 : w3.heap.size ≤ w5.heap.size := hC5k.size
      repeat' (first|refine za ?_|refine zA ?_|refine zb ?_|refine ze ?_|refine zd ?_|refine zX ?_)
      refine r_append1_i (a := (k : Int)) el27 hv5 rfl rfl (by rw [ni_len]; omega) hsz5 fun v' w6 qx h6 hG hne6 hgb => ?_
      have hC6 : Ch (fun k => (Value.slice qv (ni (tst S O i)).length cv).ownBlock = some k) w5 w6 := Ch.grown hG fun k e => e
      obtain ⟨q6, c6, rfl, _⟩ := h6.ints.slice
      repeat' (first|refine za ?_|refine zA ?_|refine zB ?_|refine zb ?_|refine ze ?_|refine zd ?_|refine zI ?_|refine zh ?_)
      refine ⟨i + 1, _, ⟨rfl, rfl, trivial⟩, ⟨by omega, by rw [hj1]; exact hb5.keep hC6 fun e => by have := (hv5.lt _ e).1; have := hb23.lt; omega, by rw [hj2, ni_append]; exact h6, Ch.trans' hC5k hC6 fun g hg e => by have := (hv5.lt g e).1; omega⟩, by omega⟩
  · obtain rfl : i = O.length := by omega
    have hb1d : Blk wk.drew b1 117 (netV n q S.length c) := ((hb13.keep hCk hne).ext (Ext.drew wk))
    have gq : rd wk.drew (some ⟨b1, 0 + 0, none⟩) = some (.int .i64 (n : Int)) := hb1d.rd rfl
    rw [← htl]
    generalize hT : tst S O O.length = T at *
    have hTl : (ni T).length = T.length := ni_len T
    by_cases e : T.length + 1 = n
    · rw [decide_eq_true e]
      repeat' (first|refine za ?_|refine zb ?_|refine zc ?_|refine ze ?_|refine zd ?_|refine zC ?_|refine zY ?_|refine zm ?_|refine zg ?_|refine zj ?_)
      (refine wc_drawn 8 (by kernel_rfl) (by kernel_rfl) ?_; simp only [List.take_succ_cons, List.take_zero, List.drop_succ_cons, List.drop_zero])
      repeat' (first|refine za ?_|refine zA ?_|refine zK ?_)
      refine r_fa fo117_0 rfl ?_
      repeat' (first|refine za ?_|refine zB ?_|refine zb ?_|refine ze ?_|refine zG ?_|refine zJ ?_|refine zM ?_|refine zn ?_)
      refine post2 rfl (v1 := .slice qv (ni T).length cv) (v2 := .bool true) rfl rfl ?_
      exact ⟨_, rfl, ownsRow_mono hvk (by have := (hE1.trans hE2).size; have := hE3.size; omega), hEk.trans (Ext.drew wk)⟩
    · rw [decide_eq_false e]
      repeat' (first|refine za ?_|refine zb ?_|refine zc ?_|refine ze ?_|refine zd ?_|refine zC ?_|refine zY ?_|refine zm ?_|refine zg ?_|refine zj ?_)
      (refine wc_drawn 8 (by kernel_rfl) (by kernel_rfl) ?_; simp only [List.take_succ_cons, List.take_zero, List.drop_succ_cons, List.drop_zero])
      repeat' (first|refine za ?_|refine zA ?_|refine zK ?_)
      refine r_fa fo117_0 rfl ?_
      repeat' (first|refine za ?_|refine zB ?_|refine zb ?_|refine ze ?_|refine zG ?_|refine zJ ?_|refine zM ?_|refine zn ?_)
      refine post2 rfl (v1 := .slice qv (ni T).length cv) (v2 := .bool false) rfl rfl ?_
      exact ⟨_, rfl, ownsRow_mono hvk (by have := (hE1.trans hE2).size; have := hE3.size; omega), hEk.trans (Ext.drew wk)⟩
end Go.Proofs.YtocgehoffdjijaaGreat
/- top: streets: the order of one street; powers. -/
namespace Go.Proofs.YtocgehoffdjijaaGreat
open Gv
set_option maxRecDepth 20000
theorem insSort1 (q : Option Addr) (c : Nat) (f : Value) (w : World) (hf : ∃ g cap, f = .func g #[] cap) : Calls Tryz.prog 184 #[.slice q 1 c, .int .i64 0, .int .i64 1, f] w (Ret fun _ w' => w' = w) := by
  obtain ⟨g, cap, rfl⟩ := hf
  refine calls_of_wc (args := [.slice q 1 c, .int .i64 0, .int .i64 1, .func g #[] cap]) Tryz.func184 rfl ?_ ?_; kernel_rfl
  repeat' (first|refine za ?_|refine zA ?_|refine zB ?_|refine zb ?_|refine zc ?_|refine ze ?_|refine zd ?_|refine zI ?_|refine zl ?_)
  refine wc_loop [0, 1, 2, 3] (fun (_ : Nat) => [(8, .int .i64 1)]) (fun _ wk => wk = w) (fun i => i) 0 rfl ⟨rfl, trivial⟩ rfl ?_
  rintro i wk x rfl
  repeat' (first|refine za ?_|refine zA ?_|refine zb ?_|refine zc ?_|refine ze ?_|refine zd ?_|refine zC ?_|refine zY ?_|refine zm ?_|refine zg ?_|refine zj ?_)
  exact post0n rfl rfl
theorem pdq1 (q : Option Addr) (c : Nat) (l : Int) (f : Value) (w : World) (hf : ∃ g cap, f = .func g #[] cap) : Calls Tryz.prog 171 #[.slice q 1 c, .int .i64 0, .int .i64 1, .int .i64 l, f] w (Ret fun _ w' => w' = w) := by
  obtain ⟨g, cap, rfl⟩ := hf
  refine calls_of_wc (args := [.slice q 1 c, .int .i64 0, .int .i64 1, .int .i64 l, .func g #[] cap]) Tryz.func171 rfl ?_ ?_; kernel_rfl
  repeat' (first|refine za ?_|refine zB ?_|refine zb ?_|refine zc ?_|refine ze ?_|refine zd ?_|refine zl ?_)
  refine wc_loop [0, 4] (fun (_ : Nat) => [(1, .int .i64 0), (2, .int .i64 1), (3, .int .i64 l)]) (fun _ wk => wk = w) (fun i => i) 0 rfl ⟨rfl, rfl, rfl, trivial⟩ rfl ?_
  rintro i wk x rfl
  repeat' (first|refine za ?_|refine zA ?_|refine zB ?_|refine zb ?_|refine zc ?_|refine ze ?_|refine zd ?_|refine zD ?_|refine zJ ?_|refine zX ?_|refine zl ?_)
  (refine r_call (R := ?_) rfl ?_ ?_; rotate_left 1; focus exact insSort1 q c (.func g #[] cap) wk ⟨_, _, rfl⟩)
  rintro _ _ rfl
  repeat' (first|refine zb ?_|refine ze ?_|refine zn ?_|refine zf ?_|refine zi ?_)
  exact post0 rfl rfl
section
variable {P : Program} {st : Bool} {K : Env → World → Prop} {ρ : Env} {w : World} {d : Nat} {t ty : TypeId} {pos : String} {aft : Array Edge} {gd : Option (Nat × Bool)} {x y : Operand}
theorem r_sidxB {b : ByteArray} {i : Int} {k : IntKind} (ht : strT P t = true) (hx : ev ρ x = .string b) (hy : ev ρ y = .int k i) (h0 : 0 ≤ i) (h1 : i < b.size) (h : ∀ u : Nat, u < 256 → K (up ρ d (.int .u8 (u : Int))) w) : w1 P st ⟨some d, .index t x y, ty, pos, aft, gd⟩ K ρ w := by
  obtain ⟨⟨l⟩⟩ := b
  have hx' : ev ρ x = str l := by rw [hx]
  exact r_sidx ht hx' hy h0 (by simpa [ByteArray.size] using h1) (h _ (UInt8.toNat_lt _))
theorem r_conv_v {k k' : IntKind} {a b : Int} {s : TypeId} (hs : (intK P s).isSome = true) (ht : intK P t = some k') (hx : ev ρ x = .int k a) (hb : k'.wrap a = b) (h : K (up ρ d (.int k' b)) w) :
    w1 P st ⟨some d, .convert s t x, ty, pos, aft, gd⟩ K ρ w := r_conv hs ht hx (by rw [hb]; exact h)
end
theorem ik227 : intK Tryz.prog 227 = some .u64 := by kernel_rfl
theorem ik5 : intK Tryz.prog 5 = some .u8 := by kernel_rfl
theorem ik82' : intK Tryz.prog 82 = some .u64 := by kernel_rfl
theorem ik3' : intK Tryz.prog 3 = some .i64 := by kernel_rfl
theorem len64_1 (w : World) : Calls Tryz.prog 156 #[.int .u64 1] w (Ret fun v w' => (∃ l : Int, v = .int .i64 l) ∧ w' = w) := by
  refine calls_of_wc (args := [.int .u64 1]) Tryz.func156 rfl ?_ ?_; kernel_rfl
  repeat' (first|refine za ?_|refine zA ?_|refine zB ?_|refine zb ?_|refine zc ?_|refine ze ?_|refine zd ?_|refine zF ?_|refine zY ?_|refine zk ?_)
  refine r_conv (k' := .u8) (by rw [ik227]; rfl) ik5 rfl ?_
  repeat' (refine za ?_)
  refine r_sidxB st9 rfl rfl (by decide) (by decide +kernel) fun u hu => ?_
  repeat' (refine za ?_)
  refine r_conv (k' := .i64) (by rw [ik5]; rfl) ik3' rfl ?_
  rw [wrap_in (by omega) (by omega)]
  repeat' (first|refine za ?_|refine zB ?_|refine zb ?_|refine ze ?_|refine zI ?_|refine zn ?_)
  refine post1 rfl rfl ⟨⟨_, rfl⟩, rfl⟩
theorem len_1 (w : World) : Calls Tryz.prog 117 #[.int .u64 1] w (Ret fun v w' => (∃ l : Int, v = .int .i64 l) ∧ w' = w) := by
  refine calls_of_wc (args := [.int .u64 1]) Tryz.func117 rfl ?_ ?_; kernel_rfl
  repeat' (first|refine za ?_|refine zA ?_|refine zB ?_|refine zb ?_|refine zc ?_|refine ze ?_|refine zd ?_|refine zY ?_|refine zk ?_)
  (refine r_call (R := ?_) rfl ?_ ?_; rotate_left 1; focus exact len64_1 w)
  rintro _ w1 ⟨⟨l, rfl⟩, rfl⟩
  repeat' (first|refine za ?_|refine zB ?_|refine zb ?_|refine ze ?_|refine zn ?_)
  refine post1 rfl rfl ⟨⟨l, rfl⟩, rfl⟩
theorem sort1 (q : Option Addr) (c : Nat) (f : Value) (w : World) (hf : ∃ g cap, f = .func g #[] cap) : Calls Tryz.prog 136 #[.slice q 1 c, f] w (Ret fun _ w' => w' = w) := by
  obtain ⟨g, cap, rfl⟩ := hf
  refine calls_of_wc (args := [.slice q 1 c, .func g #[] cap]) Tryz.func136 rfl ?_ ?_; kernel_rfl
  repeat' (first|refine za ?_|refine zA ?_|refine zB ?_|refine zb ?_|refine zc ?_|refine ze ?_|refine zd ?_|refine zK ?_)
  refine r_conv_v (k' := .u64) (b := 1) (by rw [ik3']; rfl) ik82' rfl (by decide) ?_
  repeat' (refine za ?_)
  (refine r_call (R := ?_) rfl ?_ ?_; rotate_left 1; focus exact len_1 w)
  rintro _ w1 ⟨⟨l, rfl⟩, rfl⟩
  repeat' (first|refine za ?_|refine zA ?_)
  (refine r_call (R := ?_) rfl ?_ ?_; rotate_left 1; focus exact pdq1 q c l (.func g #[] cap) w1 ⟨_, _, rfl⟩)
  rintro _ _ rfl
  repeat' (refine zb ?_)
  exact post0n rfl rfl
set_option maxHeartbeats 1000000 in
theorem ordered1 (S : List N3) (h1 : S.length = 1) : OrdOf S [0] := by
  intro n q c w h
  rw [h1] at h ⊢
  refine calls_of_wc (args := [.agg (netV n q 1 c).toArray]) Tryz.func103 rfl ?_ ?_; kernel_rfl
  repeat' (first|refine za ?_|refine zc ?_|refine zd ?_)
  refine r_boxN (cells := netV n q 1 c) rfl fun w1 hb1 hE1 hs1 => ?_
  obtain ⟨b1, eb1⟩ : ∃ b, b = w.heap.size := ⟨_, rfl⟩
  rw [← eb1] at hb1 ⊢
  have gq : rd w1 (some ⟨b1, 0 + 1, none⟩) = some (.slice q 1 c) := hb1.rd rfl
  repeat' (first|refine za ?_|refine zB ?_|refine zb ?_|refine zc ?_|refine ze ?_|refine zd ?_)
  refine r_fa fo117_1 rfl ?_
  repeat' (first|refine za ?_|refine zA ?_|refine zb ?_|refine ze ?_|refine zK ?_|refine zM ?_|refine zl ?_)
  refine wc_loop2 [1, 7] (fun (i : Nat) (v : Value) => [(3, v), (8, .int .i64 i)]) (fun i v wk => i ≤ 1 ∧ OwnI wk w1.heap.size 3 v (ni (List.range i)) ∧ Ext w1 wk) (fun i _ => 1 - i) 0 (.slice none 0 0) rfl ⟨rfl, rfl, trivial⟩ ⟨by omega, World.ownsRow_nil _ _ _ _, Ext.refl _⟩ ?_
  rintro i v wk x ⟨hi, hvk, hEk⟩
  obtain ⟨qv, cv, rfl, hqv⟩ := hvk.ints.slice
  by_cases hin : i < 1
  · obtain rfl : i = 0 := by omega
    repeat' (first|refine za ?_|refine zA ?_|refine zB ?_|refine zb ?_|refine zc ?_|refine ze ?_|refine zd ?_|refine zC ?_|refine zX ?_|refine zk ?_|refine zl ?_)
    refine r_append1_i (a := 0) el27 hvk rfl rfl (by simp [ni]) hEk.size fun v' w6 qx h6 hG hne6 hgb => ?_
    obtain ⟨q6, c6, rfl, _⟩ := h6.ints.slice
    repeat' (first|refine za ?_|refine zA ?_|refine zB ?_|refine zb ?_|refine ze ?_|refine zd ?_|refine zI ?_|refine zh ?_)
    refine ⟨1, _, ⟨rfl, rfl, trivial⟩, ⟨by omega, h6, Ch.trans' hEk (Ch.grown hG fun k e => e) fun g hg e => by have := (hvk.lt g e).1; omega⟩, by omega⟩
  · obtain rfl : i = 1 := by omega
    have e1 : (ni (List.range 1)).length = 1 := rfl
    repeat' (first|refine za ?_|refine zA ?_|refine zb ?_|refine zc ?_|refine ze ?_|refine zd ?_|refine zC ?_|refine zY ?_|refine zm ?_|refine zg ?_|refine zj ?_)
    refine r_mkfn (as_ := []) (bs := [.tmp 1]) ?_
    repeat' (refine za ?_)
    (refine r_call (R := ?_) rfl ?_ ?_; rotate_left 1; focus exact sort1 qv cv (.func (.func 137) #[] #[.pointer (some ⟨b1, 0, none⟩)]) wk ⟨_, _, rfl⟩)
    rintro _ _ rfl
    repeat' (first|refine za ?_|refine zA ?_|refine zB ?_|refine zb ?_|refine zc ?_|refine ze ?_|refine zd ?_|refine zn ?_)
    refine post1 (v := .slice qv 1 cv) rfl rfl ?_
    exact ⟨ownsRow_mono hvk (by omega), hE1.trans hEk⟩
end Go.Proofs.YtocgehoffdjijaaGreat
/- top: streets: powers; the determinant and the sums where there is one row. -/
namespace Go.Proofs.YtocgehoffdjijaaGreat
open Gv
set_option maxRecDepth 20000
namespace Gv
section
variable {P : Program} {st : Bool} {K : Env → World → Prop} {ρ : Env} {w : World} {d : Nat} {t t2 ty : TypeId} {pos : String} {aft : Array Edge} {gd : Option (Nat × Bool)} {x y : Operand}
theorem r_mul_n {a b c : Nat} (hx : ev ρ x = .int .i64 (a : Int)) (hy : ev ρ y = .int .i64 (b : Int)) (hb : a * b ≤ 9223372036854775807) (hc : a * b = c) (h : K (up ρ d (.int .i64 (c : Int))) w) :
    w1 P st ⟨some d, .binOp .mul t x y t2, ty, pos, aft, gd⟩ K ρ w := by
  refine r_mul_in hx hy ⟨?_, ?_⟩ ?_
  · have : (0 : Int) ≤ (a : Int) * b := by rw [← Int.natCast_mul]; exact Int.natCast_nonneg _
    omega
  · rw [← Int.natCast_mul]; omega
  · rw [← Int.natCast_mul, hc]; exact h
theorem r_rem_n {a b c : Nat} (hx : ev ρ x = .int .i64 (a : Int)) (hy : ev ρ y = .int .i64 (b : Int)) (h0 : 0 < b) (hc : a % b = c) (h : K (up ρ d (.int .i64 (c : Int))) w) :
    w1 P st ⟨some d, .binOp .rem t x y t2, ty, pos, aft, gd⟩ K ρ w := by
  refine r_rem_in hx hy (by omega) (by omega) ?_
  rw [← Int.natCast_emod, hc]; exact h
end
end Gv
theorem mul_b {a b : Nat} (ha : a ≤ 2147483648) (hb : b ≤ 2147483648) : a * b ≤ 9223372036854775807 := Nat.le_trans (Nat.mul_le_mul ha hb) (by decide)
set_option maxHeartbeats 1000000 in
theorem power_any (a n p : Nat) (w : World) (ha : a < 2147483648) (hp : 2 ≤ p ∧ p < 2147483648) (hn : n < 2147483648) :
    Calls Tryz.prog 62 #[.int .i64 (a : Int), .int .i64 (n : Int), .int .i64 (p : Int)] w (Ret fun v w' => (∃ r : Nat, v = .int .i64 (r : Int) ∧ r < p) ∧ w' = w) := by
  refine calls_of_wc (args := [.int .i64 (a : Int), .int .i64 (n : Int), .int .i64 (p : Int)]) Tryz.func62 rfl ?_ ?_; kernel_rfl
  repeat' (first|refine za ?_|refine zB ?_|refine zb ?_|refine zc ?_|refine ze ?_|refine zd ?_|refine zl ?_)
  refine wc_loop3 [2] (fun (a n o : Nat) => [(0, .int .i64 (a : Int)), (1, .int .i64 (n : Int)), (7, .int .i64 (o : Int))]) (fun a n o wk => wk = w ∧ a < 2147483648 ∧ n < 2147483648 ∧ o < p) (fun _ n _ => n) a n 1 rfl ⟨rfl, rfl, rfl, trivial⟩ ⟨rfl, ha, hn, by omega⟩ ?_
  clear ha hn
  rintro a n o wk x ⟨rfl, ha, hn, ho⟩
  by_cases h0 : 0 < n
  · have hm1 := Nat.mod_lt (a * a) (show 0 < p by omega)
    have hm2 := Nat.mod_lt (o * a) (show 0 < p by omega)
    by_cases h2 : n % 2 = 1
    · repeat' (first|refine za ?_|refine zA ?_|refine zb ?_|refine zc ?_|refine ze ?_|refine zd ?_|refine zE ?_|refine zX ?_|refine zk ?_|refine zl ?_)
      refine r_rem_n (a := n) (b := 2) (c := 1) rfl rfl (by omega) (by omega) ?_
      repeat' (first|refine za ?_|refine zA ?_|refine zb ?_|refine ze ?_|refine zd ?_|refine zG ?_|refine zX ?_)
      refine r_mul_n (a := o) (b := a) rfl rfl (mul_b (by omega) (by omega)) rfl ?_
      repeat' (first|refine za ?_|refine zA ?_)
      refine r_rem_n rfl rfl (by omega) rfl ?_
      repeat' (first|refine za ?_|refine zA ?_|refine zB ?_|refine zb ?_|refine ze ?_|refine zd ?_)
      refine r_mul_n (a := a) (b := a) rfl rfl (mul_b (by omega) (by omega)) rfl ?_
      repeat' (first|refine za ?_|refine zA ?_)
      refine r_rem_n rfl rfl (by omega) rfl ?_
      repeat' (first|refine za ?_|refine zA ?_|refine zB ?_|refine zb ?_|refine ze ?_|refine zd ?_|refine zh ?_)
      refine r_quo_in rfl rfl (by omega) (by omega) ?_
      rw [show ((n : Int) / 2) = ((n / 2 : Nat) : Int) by omega]
      repeat' (first|refine za ?_|refine zB ?_|refine zb ?_|refine ze ?_)
      exact ⟨a * a % p, n / 2, o * a % p, ⟨rfl, rfl, rfl, trivial⟩, ⟨rfl, by omega, by omega, hm2⟩, by omega⟩
    · repeat' (first|refine za ?_|refine zA ?_|refine zb ?_|refine zc ?_|refine ze ?_|refine zd ?_|refine zE ?_|refine zX ?_|refine zk ?_|refine zl ?_)
      refine r_rem_n (a := n) (b := 2) (c := 0) rfl rfl (by omega) (by omega) ?_
      repeat' (first|refine za ?_|refine zA ?_|refine zb ?_|refine ze ?_|refine zd ?_|refine zG ?_|refine zY ?_|refine zk ?_)
      refine r_mul_n (a := a) (b := a) rfl rfl (mul_b (by omega) (by omega)) rfl ?_
      repeat' (first|refine za ?_|refine zA ?_)
      refine r_rem_n rfl rfl (by omega) rfl ?_
      repeat' (first|refine za ?_|refine zA ?_|refine zB ?_|refine zb ?_|refine ze ?_|refine zd ?_|refine zh ?_)
      refine r_quo_in rfl rfl (by omega) (by omega) ?_
      rw [show ((n : Int) / 2) = ((n / 2 : Nat) : Int) by omega]
      repeat' (first|refine za ?_|refine zB ?_|refine zb ?_|refine ze ?_)
      exact ⟨a * a % p, n / 2, o, ⟨rfl, rfl, rfl, trivial⟩, ⟨rfl, by omega, by omega, ho⟩, by omega⟩
  · repeat' (first|refine za ?_|refine zA ?_|refine zB ?_|refine zb ?_|refine zc ?_|refine ze ?_|refine zd ?_|refine zE ?_|refine zY ?_|refine zm ?_|refine zn ?_|refine zg ?_|refine zj ?_)
    refine post1 rfl rfl ⟨⟨o, rfl, ho⟩, rfl⟩
theorem power_int (a p : Nat) (n : Int) (w : World) (ha : a < 2147483648) (hp : 2 ≤ p ∧ p < 2147483648) (hn : 0 ≤ n ∧ n < 2147483648) :
    Calls Tryz.prog 62 #[.int .i64 (a : Int), .int .i64 n, .int .i64 (p : Int)] w (Ret fun v w' => (∃ r : Nat, v = .int .i64 (r : Int) ∧ r < p) ∧ w' = w) := by
  obtain ⟨m, rfl⟩ : ∃ m : Nat, n = m := ⟨n.toNat, by omega⟩
  exact power_any a m p w ha hp (by omega)
set_option maxHeartbeats 2000000 in
theorem det1 (qm qr : Option Addr) (cm cr p : Nat) (w : World) (hp : 2 ≤ p ∧ p < 2147483648) (hm : rd w (pidx qm 0 1) = some (.slice qr 1 cr)) (hr : rd w (pidx qr 0 1) = some (.int .i64 1)) (hqm : qm.isSome = true) (hqr : qr.isSome = true) :
    Calls Tryz.prog 142 #[.slice qm 1 cm, .int .i64 (p : Int)] w (Ret fun v w' => v = .int .i64 1 ∧ w' = w) := by
  refine calls_of_wc (args := [.slice qm 1 cm, .int .i64 (p : Int)]) Tryz.func142 rfl ?_ ?_; kernel_rfl
  repeat' (first|refine za ?_|refine zA ?_|refine zB ?_|refine zb ?_|refine zc ?_|refine ze ?_|refine zd ?_|refine zK ?_|refine zl ?_)
  refine wc_loop [0, 1, 12, 13] (fun (i : Nat) => [(5, .int .i64 1), (14, .int .i64 i)]) (fun i wk => i ≤ 1 ∧ wk = w) (fun i => 1 - i) 0 rfl ⟨rfl, rfl, trivial⟩ ⟨by omega, rfl⟩ ?_
  rintro i wk x ⟨hi, rfl⟩
  by_cases hin : i < 1
  · obtain rfl : i = 0 := by omega
    repeat' (first|refine za ?_|refine zA ?_|refine zB ?_|refine zb ?_|refine zc ?_|refine ze ?_|refine zd ?_|refine zC ?_|refine zX ?_|refine zk ?_|refine zl ?_)
    refine wc_loop [0, 1, 5, 6, 12, 13, 14] (fun (_ : Nat) => [(7, .int .i64 0)]) (fun _ wz => wz = wk) (fun i => i) 0 rfl ⟨rfl, trivial⟩ rfl ?_
    rintro j wz y rfl
    repeat' (first|refine za ?_|refine zA ?_|refine zb ?_|refine zc ?_|refine ze ?_|refine zd ?_|refine zC ?_|refine zG ?_|refine zH ?_|refine zK ?_|refine zL ?_|refine zM ?_|refine zQ ?_|refine zU ?_|refine zY ?_|refine zk ?_|refine zm ?_|refine zg ?_|refine zj ?_)
    refine r_mul_n (a := 1) (b := 1) rfl rfl (by decide) rfl ?_
    repeat' (first|refine za ?_|refine zA ?_)
    refine r_rem_n (a := 1) (c := 1) rfl rfl (by omega) (Nat.mod_eq_of_lt (by omega)) ?_
    repeat' (first|refine za ?_|refine zA ?_|refine zB ?_|refine zb ?_|refine zc ?_|refine ze ?_|refine zd ?_|refine zJ ?_|refine zL ?_|refine zM ?_)
    (refine r_call (R := ?_) rfl ?_ ?_; rotate_left 1; focus exact power_int 1 p ((p : Int) - 2) _ (by omega) hp (by omega))
    rintro _ w2 ⟨⟨r, rfl, hrp⟩, rfl⟩
    repeat' (first|refine za ?_|refine zA ?_|refine zB ?_|refine zb ?_|refine zc ?_|refine ze ?_|refine zd ?_|refine zI ?_|refine zl ?_)
    refine wc_loop [0, 1, 5, 6, 8, 12, 13, 14] (fun (_ : Nat) => [(9, .int .i64 1)]) (fun _ wz => wz = w2) (fun i => i) 0 rfl ⟨rfl, trivial⟩ rfl ?_
    rintro j wz y2 rfl
    repeat' (first|refine za ?_|refine zA ?_|refine zb ?_|refine zc ?_|refine ze ?_|refine zd ?_|refine zC ?_|refine zI ?_|refine zK ?_|refine zY ?_|refine zm ?_|refine zg ?_|refine zj ?_|refine zh ?_)
    exact ⟨1, ⟨rfl, rfl, trivial⟩, ⟨by omega, rfl⟩, by omega⟩
  · obtain rfl : i = 1 := by omega
    repeat' (first|refine za ?_|refine zA ?_|refine zB ?_|refine zb ?_|refine zc ?_|refine ze ?_|refine zd ?_|refine zC ?_|refine zY ?_|refine zm ?_|refine zn ?_|refine zg ?_|refine zj ?_)
    refine post1 (v := .int .i64 1) rfl rfl ?_
    exact ⟨rfl, rfl⟩
theorem ct35 : cellT Tryz.prog 35 = true := by kernel_rfl
theorem sz35 : sliceSz Tryz.prog 35 = some 1 := by kernel_rfl
theorem sz27 : sliceSz Tryz.prog 27 = some 1 := by kernel_rfl
theorem add_miss (i j : Nat) (m : Int) (bs bm bp : Nat) (w : World) (hij : 1 ≤ i ∨ 1 ≤ j) (hs : Box w bs 3 (.int .i64 1)) :
    Calls Tryz.prog 141 #[.int .i64 (i : Int), .int .i64 (j : Int), .int .i64 m, .pointer (some ⟨bs, 0, none⟩), .pointer (some ⟨bm, 0, none⟩), .pointer (some ⟨bp, 0, none⟩)] w (Ret fun _ w' => w' = w) := by
  refine calls_of_wc (args := [.int .i64 (i : Int), .int .i64 (j : Int), .int .i64 m, .pointer (some ⟨bs, 0, none⟩), .pointer (some ⟨bm, 0, none⟩), .pointer (some ⟨bp, 0, none⟩)]) Tryz.func141 rfl ?_ ?_; kernel_rfl
  have g := hs.rd
  by_cases h : 1 ≤ i
  · repeat' (first|refine za ?_|refine zA ?_|refine zb ?_|refine zc ?_|refine ze ?_|refine zd ?_|refine zC ?_|refine zM ?_|refine zR ?_|refine zV ?_|refine zY ?_|refine zk ?_)
    exact post0n rfl rfl
  · repeat' (first|refine za ?_|refine zA ?_|refine zb ?_|refine zc ?_|refine ze ?_|refine zd ?_|refine zC ?_|refine zM ?_|refine zQ ?_|refine zU ?_|refine zY ?_|refine zk ?_)
    exact post0n rfl rfl
set_option maxHeartbeats 1000000 in
theorem add_hit (bs bm bp p cm cr base : Nat) (qm qr : Option Addr) (w : World) (hp : 2 ≤ p ∧ p < 2147483648) (hs : Box w bs 3 (.int .i64 1)) (hm : Box w bm 35 (.slice qm 1 cm)) (hb : Box w bp 3 (.int .i64 (p : Int))) (hr : rd w (pidx qm 0 1) = some (.slice qr 1 cr)) (hq : qm.isSome = true) (ho : OwnI w base 3 (.slice qr 1 cr) [0]) :
    Calls Tryz.prog 141 #[.int .i64 0, .int .i64 0, .int .i64 1, .pointer (some ⟨bs, 0, none⟩), .pointer (some ⟨bm, 0, none⟩), .pointer (some ⟨bp, 0, none⟩)] w (Ret fun _ w' => OwnI w' base 3 (.slice qr 1 cr) [1] ∧ Ch (fun k => (Value.slice qr 1 cr).ownBlock = some k) w w') := by
  refine calls_of_wc (args := [.int .i64 0, .int .i64 0, .int .i64 1, .pointer (some ⟨bs, 0, none⟩), .pointer (some ⟨bm, 0, none⟩), .pointer (some ⟨bp, 0, none⟩)]) Tryz.func141 rfl ?_ ?_; kernel_rfl
  have g := hs.rd
  repeat' (first|refine za ?_|refine zA ?_|refine zb ?_|refine zc ?_|refine ze ?_|refine zd ?_|refine zC ?_|refine zM ?_|refine zQ ?_|refine zU ?_|refine zX ?_)
  have gm := (hm.ext (Ext.drew w)).rd
  have gp := (hb.ext (Ext.drew w)).rd
  have gr : rd w.drew (pidx qm 0 1) = some (.slice qr 1 cr) := rd_ext hr (Ext.drew w)
  have go := (ho.ints.ext (Ext.drew w)).rd (i := 0) (by simp)
  have hqr := ho.ints.isSome (by simp)
  change rd w.drew (pidx qr 0 1) = some (.int .i64 0) at go
  have hod : OwnI w.drew base 3 (.slice qr 1 cr) [0] := ownsRow_ext ho (Ext.drew w)
  (refine wc_drawn 18 (by kernel_rfl) (by kernel_rfl) ?_; simp only [List.take_succ_cons, List.take_zero, List.drop_succ_cons, List.drop_zero])
  repeat' (first|refine za ?_|refine zA ?_|refine zI ?_|refine zL ?_|refine zM ?_)
  refine r_rem_n (a := 1 + p) (c := 1) rfl rfl (by omega) (by rw [Nat.add_mod_right]; exact Nat.mod_eq_of_lt (by omega)) ?_
  repeat' (first|refine za ?_|refine zb ?_|refine zL ?_)
  refine r_st_i (i := 0) (a := 1) co3 hod rfl rfl (by simp) fun w4 h4 hG hs4 => ?_
  repeat' (refine zb ?_)
  exact post0n rfl ⟨h4, (Ch.grown hG fun k e => e).from_drew⟩
end Go.Proofs.YtocgehoffdjijaaGreat
