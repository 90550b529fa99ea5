/- bags: frac; the law's copy of the edges. -/
import Derived.Test.YtibegggcinonkaaA
import Derived.Test.YtibegggcinonkaaPairs
namespace Go.Proofs.Ytibegggcinonkaa
open Gv
theorem el22 : elemI Try.prog 22 = some (46, .agg #[.int .i64 0, .int .i64 0], 2, 16) := by kernel_rfl
theorem sz22 : sliceSz Try.prog 22 = some 2 := by kernel_rfl
theorem z48 : (Try.prog.info? 48).bind (·.zero) = some (.agg (ints (List.replicate 2 0)).toArray) := by kernel_rfl
theorem ag48 : aggT Try.prog 48 2 = true := by kernel_rfl
theorem built48 (a b : Int) : Try.prog.built 48 [(0, .int .i64 a), (1, .int .i64 b)] = some #[.int .i64 a, .int .i64 b] := by kernel_rfl
theorem prc_take (L : List (Int × Int)) : ∀ n : Nat, (prc L).take (n * 2) = prc (L.take n) := by
  induction L with
  | nil => intro n; simp [prc]
  | cons x r ih =>
    intro n
    cases n with
    | zero => simp [prc]
    | succ n =>
      have := ih n
      simp only [prc, List.flatMap_cons, List.take_succ_cons] at this ⊢
      rw [show (n + 1) * 2 = n * 2 + 1 + 1 by omega]
      simp only [List.cons_append, List.take_succ_cons, List.nil_append]
      rw [this]
set_option maxRecDepth 20000 in
set_option maxHeartbeats 1000000 in
theorem edges_any (v : Value) (L : List (Int × Int)) (w : World) (h : Pairs2 w v L) :
    Calls Try.prog 14 #[v] w (Ret fun v' w' => OwnP w' w.heap.size 46 v' (L.take 130) ∧ Ext w w') := by
  obtain ⟨p, c, rfl, hc⟩ := h.slice
  refine calls_of_wc (args := [.slice p L.length c]) Try.func14 rfl ?_ ?_; kernel_rfl
  repeat' (first|refine za ?_|refine zA ?_|refine zB ?_|refine zb ?_|refine zc ?_|refine ze ?_|refine zd ?_|refine r_lss rfl rfl ?_|refine r_leq rfl rfl ?_|refine r_gtr rfl rfl ?_|refine r_geq rfl rfl ?_|refine r_eql rfl rfl ?_|refine r_neq rfl rfl ?_|refine zI ?_|refine zJ ?_|refine zK ?_|refine zL ?_|refine zM ?_|refine zN ?_|refine zO ?_|refine zP ?_|refine zQ ?_|refine zR ?_|refine zS ?_|refine zU ?_|refine zV ?_|refine zW ?_|refine zt (fun hcd => ?_) (fun hcd => ?_)|refine zu (fun hcd => ?_) (fun hcd => ?_)|refine zX ?_|refine zY ?_|refine zv (fun hcd => ?_) (fun hcd => ?_)|refine zk ?_|refine zl ?_|refine zm ?_|refine zn ?_|refine zf ?_|refine zg ?_|refine zj ?_|refine zZ ?_|refine zh ?_|refine zi ?_|refine zo ?_|refine zp ?_|refine zq ?_|refine zr ?_|refine zs ?_)
  refine r_min (c := ((min L.length 130 : Nat) : Int)) rfl rfl (by split <;> omega) ?_
  repeat' (first|refine za ?_|refine zA ?_|refine zB ?_|refine zb ?_|refine zc ?_|refine ze ?_|refine zd ?_|refine r_lss rfl rfl ?_|refine r_leq rfl rfl ?_|refine r_gtr rfl rfl ?_|refine r_geq rfl rfl ?_|refine r_eql rfl rfl ?_|refine r_neq rfl rfl ?_|refine zI ?_|refine zJ ?_|refine zK ?_|refine zL ?_|refine zM ?_|refine zN ?_|refine zO ?_|refine zP ?_|refine zQ ?_|refine zR ?_|refine zS ?_|refine zU ?_|refine zV ?_|refine zW ?_|refine zt (fun hcd => ?_) (fun hcd => ?_)|refine zu (fun hcd => ?_) (fun hcd => ?_)|refine zX ?_|refine zY ?_|refine zv (fun hcd => ?_) (fun hcd => ?_)|refine zk ?_|refine zl ?_|refine zm ?_|refine zn ?_|refine zf ?_|refine zg ?_|refine zj ?_|refine zZ ?_|refine zh ?_|refine zi ?_|refine zo ?_|refine zp ?_|refine zq ?_|refine zr ?_|refine zs ?_)
  have hm : min L.length 130 = (L.take 130).length := by simp; omega
  have ht : L.take (L.take 130).length = L.take 130 := by
    rw [List.length_take]
    by_cases e : 130 ≤ L.length
    · rw [Nat.min_eq_left e]
    · rw [Nat.min_eq_right (by omega), List.take_length, List.take_of_length_le (by omega)]
  rw [hm]
  refine r_slice_r (sz := 2) (l := 0) (h' := (L.take 130).length) sz22 h rfl bnd_none ⟨_, rfl⟩ (by omega) (by omega) ?_
  intro q' c' hs _
  rw [Nat.sub_zero, Nat.zero_mul, List.drop_zero, prc_take, ht] at hs
  repeat' (first|refine za ?_|refine zA ?_|refine zB ?_|refine zb ?_|refine zc ?_|refine ze ?_|refine zd ?_|refine r_lss rfl rfl ?_|refine r_leq rfl rfl ?_|refine r_gtr rfl rfl ?_|refine r_geq rfl rfl ?_|refine r_eql rfl rfl ?_|refine r_neq rfl rfl ?_|refine zI ?_|refine zJ ?_|refine zK ?_|refine zL ?_|refine zM ?_|refine zN ?_|refine zO ?_|refine zP ?_|refine zQ ?_|refine zR ?_|refine zS ?_|refine zU ?_|refine zV ?_|refine zW ?_|refine zt (fun hcd => ?_) (fun hcd => ?_)|refine zu (fun hcd => ?_) (fun hcd => ?_)|refine zX ?_|refine zY ?_|refine zv (fun hcd => ?_) (fun hcd => ?_)|refine zk ?_|refine zl ?_|refine zm ?_|refine zn ?_|refine zf ?_|refine zg ?_|refine zj ?_|refine zZ ?_|refine zh ?_|refine zi ?_|refine zo ?_|refine zp ?_|refine zq ?_|refine zr ?_|refine zs ?_)
  refine r_append (n := 0) (m := (L.take 130).length) (xs := []) (base := w.heap.size) el22 rfl (by decide) (by decide) (World.ownsRow_nil w _ _ 2) hs rfl rfl (prc_one _) (by simp; omega) (Nat.le_refl _) ?_
  intro v' w' h1 h2 _ _
  rw [Nat.zero_add, List.nil_append] at h1
  repeat' (first|refine za ?_|refine zA ?_|refine zB ?_|refine zb ?_|refine zc ?_|refine ze ?_|refine zd ?_|refine r_lss rfl rfl ?_|refine r_leq rfl rfl ?_|refine r_gtr rfl rfl ?_|refine r_geq rfl rfl ?_|refine r_eql rfl rfl ?_|refine r_neq rfl rfl ?_|refine zI ?_|refine zJ ?_|refine zK ?_|refine zL ?_|refine zM ?_|refine zN ?_|refine zO ?_|refine zP ?_|refine zQ ?_|refine zR ?_|refine zS ?_|refine zU ?_|refine zV ?_|refine zW ?_|refine zt (fun hcd => ?_) (fun hcd => ?_)|refine zu (fun hcd => ?_) (fun hcd => ?_)|refine zX ?_|refine zY ?_|refine zv (fun hcd => ?_) (fun hcd => ?_)|refine zk ?_|refine zl ?_|refine zm ?_|refine zn ?_|refine zf ?_|refine zg ?_|refine zj ?_|refine zZ ?_|refine zh ?_|refine zi ?_|refine zo ?_|refine zp ?_|refine zq ?_|refine zr ?_|refine zs ?_)
  refine post1 (v := v') rfl rfl ?_
  exact ⟨h1, Ch.grown h2 (by intro k hk; cases hk)⟩
set_option maxRecDepth 20000 in
set_option maxHeartbeats 1000000 in
theorem frac_any (a b : Nat) (w : World) (ha : a ≤ 1000000) (hb : b ≤ 1000000) (h0 : 0 < b) :
    Calls Try.prog 45 #[.int .i64 a, .int .i64 b] w (Ret fun v w' => v = .agg #[.int .i64 ((a / Nat.gcd a b : Nat) : Int), .int .i64 ((b / Nat.gcd a b : Nat) : Int)] ∧ Ext w w') := by
  have hg : 0 < Nat.gcd a b := Nat.gcd_pos_of_pos_right a h0
  refine calls_of_wc (args := [.int .i64 a, .int .i64 b]) Try.func45 rfl ?_ ?_; kernel_rfl
  repeat' (first|refine za ?_|refine zA ?_|refine zB ?_|refine zb ?_|refine zc ?_|refine ze ?_|refine zd ?_|refine r_lss rfl rfl ?_|refine r_leq rfl rfl ?_|refine r_gtr rfl rfl ?_|refine r_geq rfl rfl ?_|refine r_eql rfl rfl ?_|refine r_neq rfl rfl ?_|refine zI ?_|refine zJ ?_|refine zK ?_|refine zL ?_|refine zM ?_|refine zN ?_|refine zO ?_|refine zP ?_|refine zQ ?_|refine zR ?_|refine zS ?_|refine zU ?_|refine zV ?_|refine zW ?_|refine zt (fun hcd => ?_) (fun hcd => ?_)|refine zu (fun hcd => ?_) (fun hcd => ?_)|refine zX ?_|refine zY ?_|refine zv (fun hcd => ?_) (fun hcd => ?_)|refine zk ?_|refine zl ?_|refine zm ?_|refine zn ?_|refine zf ?_|refine zg ?_|refine zj ?_|refine zZ ?_|refine zh ?_|refine zi ?_|refine zo ?_|refine zp ?_|refine zq ?_|refine zr ?_|refine zs ?_)
  refine r_allocN z48 fun w1 hb1 hE1 hs1 => ?_
  obtain ⟨b1, eb1⟩ : ∃ b, b = w.heap.size := ⟨_, rfl⟩
  rw [← eb1] at hb1 ⊢
  repeat' (first|refine za ?_|refine zA ?_|refine zB ?_|refine zb ?_|refine zc ?_|refine ze ?_|refine zd ?_|refine r_lss rfl rfl ?_|refine r_leq rfl rfl ?_|refine r_gtr rfl rfl ?_|refine r_geq rfl rfl ?_|refine r_eql rfl rfl ?_|refine r_neq rfl rfl ?_|refine zI ?_|refine zJ ?_|refine zK ?_|refine zL ?_|refine zM ?_|refine zN ?_|refine zO ?_|refine zP ?_|refine zQ ?_|refine zR ?_|refine zS ?_|refine zU ?_|refine zV ?_|refine zW ?_|refine zt (fun hcd => ?_) (fun hcd => ?_)|refine zu (fun hcd => ?_) (fun hcd => ?_)|refine zX ?_|refine zY ?_|refine zv (fun hcd => ?_) (fun hcd => ?_)|refine zk ?_|refine zl ?_|refine zm ?_|refine zn ?_|refine zf ?_|refine zg ?_|refine zj ?_|refine zZ ?_|refine zh ?_|refine zi ?_|refine zo ?_|refine zp ?_|refine zq ?_|refine zr ?_|refine zs ?_)
  (refine r_call (R := ?_) rfl ?_ ?_; rotate_left 1; focus exact gcd_any a b _ ha hb)
  rintro v w2 ⟨rfl, hE2⟩
  generalize Nat.gcd a b = g at hg ⊢
  repeat' (first|refine za ?_|refine zA ?_|refine zB ?_|refine zb ?_|refine zc ?_|refine ze ?_|refine zd ?_|refine r_lss rfl rfl ?_|refine r_leq rfl rfl ?_|refine r_gtr rfl rfl ?_|refine r_geq rfl rfl ?_|refine r_eql rfl rfl ?_|refine r_neq rfl rfl ?_|refine zI ?_|refine zJ ?_|refine zK ?_|refine zL ?_|refine zM ?_|refine zN ?_|refine zO ?_|refine zP ?_|refine zQ ?_|refine zR ?_|refine zS ?_|refine zU ?_|refine zV ?_|refine zW ?_|refine zt (fun hcd => ?_) (fun hcd => ?_)|refine zu (fun hcd => ?_) (fun hcd => ?_)|refine zX ?_|refine zY ?_|refine zv (fun hcd => ?_) (fun hcd => ?_)|refine zk ?_|refine zl ?_|refine zm ?_|refine zn ?_|refine zf ?_|refine zg ?_|refine zj ?_|refine zZ ?_|refine zh ?_|refine zi ?_|refine zo ?_|refine zp ?_|refine zq ?_|refine zr ?_|refine zs ?_)
  have hb2 := hb1.ext (hE2.trans (Ext.drew w2))
  (refine wc_drawn 6 (by kernel_rfl) (by kernel_rfl) ?_; simp only [List.take_succ_cons, List.take_zero, List.drop_succ_cons, List.drop_zero])
  repeat' (first|refine za ?_|refine zA ?_|refine zB ?_|refine zb ?_|refine zc ?_|refine ze ?_|refine zd ?_|refine r_lss rfl rfl ?_|refine r_leq rfl rfl ?_|refine r_gtr rfl rfl ?_|refine r_geq rfl rfl ?_|refine r_eql rfl rfl ?_|refine r_neq rfl rfl ?_|refine zI ?_|refine zJ ?_|refine zK ?_|refine zL ?_|refine zM ?_|refine zN ?_|refine zO ?_|refine zP ?_|refine zQ ?_|refine zR ?_|refine zS ?_|refine zU ?_|refine zV ?_|refine zW ?_|refine zt (fun hcd => ?_) (fun hcd => ?_)|refine zu (fun hcd => ?_) (fun hcd => ?_)|refine zX ?_|refine zY ?_|refine zv (fun hcd => ?_) (fun hcd => ?_)|refine zk ?_|refine zl ?_|refine zm ?_|refine zn ?_|refine zf ?_|refine zg ?_|refine zj ?_|refine zZ ?_|refine zh ?_|refine zi ?_|refine zo ?_|refine zp ?_|refine zq ?_|refine zr ?_|refine zs ?_)
  refine r_quo_in rfl rfl (by omega) (by omega) ?_
  repeat' (first|refine za ?_|refine zA ?_|refine zB ?_|refine zb ?_|refine zc ?_|refine ze ?_|refine zd ?_|refine r_lss rfl rfl ?_|refine r_leq rfl rfl ?_|refine r_gtr rfl rfl ?_|refine r_geq rfl rfl ?_|refine r_eql rfl rfl ?_|refine r_neq rfl rfl ?_|refine zI ?_|refine zJ ?_|refine zK ?_|refine zL ?_|refine zM ?_|refine zN ?_|refine zO ?_|refine zP ?_|refine zQ ?_|refine zR ?_|refine zS ?_|refine zU ?_|refine zV ?_|refine zW ?_|refine zt (fun hcd => ?_) (fun hcd => ?_)|refine zu (fun hcd => ?_) (fun hcd => ?_)|refine zX ?_|refine zY ?_|refine zv (fun hcd => ?_) (fun hcd => ?_)|refine zk ?_|refine zl ?_|refine zm ?_|refine zn ?_|refine zf ?_|refine zg ?_|refine zj ?_|refine zZ ?_|refine zh ?_|refine zi ?_|refine zo ?_|refine zp ?_|refine zq ?_|refine zr ?_|refine zs ?_)
  refine r_quo_in rfl rfl (by omega) (by omega) ?_
  repeat' (first|refine za ?_|refine zA ?_|refine zB ?_|refine zb ?_|refine zc ?_|refine ze ?_|refine zd ?_|refine r_lss rfl rfl ?_|refine r_leq rfl rfl ?_|refine r_gtr rfl rfl ?_|refine r_geq rfl rfl ?_|refine r_eql rfl rfl ?_|refine r_neq rfl rfl ?_|refine zI ?_|refine zJ ?_|refine zK ?_|refine zL ?_|refine zM ?_|refine zN ?_|refine zO ?_|refine zP ?_|refine zQ ?_|refine zR ?_|refine zS ?_|refine zU ?_|refine zV ?_|refine zW ?_|refine zt (fun hcd => ?_) (fun hcd => ?_)|refine zu (fun hcd => ?_) (fun hcd => ?_)|refine zX ?_|refine zY ?_|refine zv (fun hcd => ?_) (fun hcd => ?_)|refine zk ?_|refine zl ?_|refine zm ?_|refine zn ?_|refine zf ?_|refine zg ?_|refine zj ?_|refine zZ ?_|refine zh ?_|refine zi ?_|refine zo ?_|refine zp ?_|refine zq ?_|refine zr ?_|refine zs ?_)
  refine r_build (built48 _ _) ?_
  repeat' (first|refine za ?_|refine zA ?_|refine zB ?_|refine zb ?_|refine zc ?_|refine ze ?_|refine zd ?_|refine r_lss rfl rfl ?_|refine r_leq rfl rfl ?_|refine r_gtr rfl rfl ?_|refine r_geq rfl rfl ?_|refine r_eql rfl rfl ?_|refine r_neq rfl rfl ?_|refine zI ?_|refine zJ ?_|refine zK ?_|refine zL ?_|refine zM ?_|refine zN ?_|refine zO ?_|refine zP ?_|refine zQ ?_|refine zR ?_|refine zS ?_|refine zU ?_|refine zV ?_|refine zW ?_|refine zt (fun hcd => ?_) (fun hcd => ?_)|refine zu (fun hcd => ?_) (fun hcd => ?_)|refine zX ?_|refine zY ?_|refine zv (fun hcd => ?_) (fun hcd => ?_)|refine zk ?_|refine zl ?_|refine zm ?_|refine zn ?_|refine zf ?_|refine zg ?_|refine zj ?_|refine zZ ?_|refine zh ?_|refine zi ?_|refine zo ?_|refine zp ?_|refine zq ?_|refine zr ?_|refine zs ?_)
  refine r_stN (ws := [.int .i64 ((a : Int) / g), .int .i64 ((b : Int) / g)]) ag48 (by decide) hb2 (by rw [ints_length]; simp) rfl rfl rfl (by intro q hq; simp at hq; rcases hq with rfl | rfl <;> rfl) fun w3 h3 hC3 hs3 => ?_
  repeat' (first|refine za ?_|refine zA ?_|refine zB ?_|refine zb ?_|refine zc ?_|refine ze ?_|refine zd ?_|refine r_lss rfl rfl ?_|refine r_leq rfl rfl ?_|refine r_gtr rfl rfl ?_|refine r_geq rfl rfl ?_|refine r_eql rfl rfl ?_|refine r_neq rfl rfl ?_|refine zI ?_|refine zJ ?_|refine zK ?_|refine zL ?_|refine zM ?_|refine zN ?_|refine zO ?_|refine zP ?_|refine zQ ?_|refine zR ?_|refine zS ?_|refine zU ?_|refine zV ?_|refine zW ?_|refine zt (fun hcd => ?_) (fun hcd => ?_)|refine zu (fun hcd => ?_) (fun hcd => ?_)|refine zX ?_|refine zY ?_|refine zv (fun hcd => ?_) (fun hcd => ?_)|refine zk ?_|refine zl ?_|refine zm ?_|refine zn ?_|refine zf ?_|refine zg ?_|refine zj ?_|refine zZ ?_|refine zh ?_|refine zi ?_|refine zo ?_|refine zp ?_|refine zq ?_|refine zr ?_|refine zs ?_)
  refine post_c1 rfl rfl ag48 (by decide) h3 rfl ⟨rfl, Ch.trans' (hE1.trans (hE2.trans (Ext.drew w2))) hC3 fun k hk e => by omega⟩
end Go.Proofs.Ytibegggcinonkaa
