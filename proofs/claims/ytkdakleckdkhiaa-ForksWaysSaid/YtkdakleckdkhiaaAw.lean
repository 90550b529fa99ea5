/- forks: the law's own: mod, tree, list, short, ints, texts; awake. -/
import Derived.Test.YtkdakleckdkhiaaWy
import Derived.Test.YtkdakleckdkhiaaTw
import Derived.Test.YtkdakleckdkhiaaPr
namespace Go.Proofs.Ytkdakleckdkhiaa
open Gv
theorem ik100 : intK Try.prog 100 = some .u64 := by kernel_rfl
theorem ik3 : intK Try.prog 3 = some .i64 := by kernel_rfl
theorem ik3s : (intK Try.prog 3).isSome = true := by rw [ik3]; rfl
theorem ik100s : (intK Try.prog 100).isSome = true := by rw [ik100]; rfl
theorem mod_bnd (x : Int) {n : Int} (h : 0 < n) : 0 ≤ (IntKind.u64.wrap x) % n ∧ (IntKind.u64.wrap x) % n < n :=
  ⟨Int.emod_nonneg _ (by omega), Int.emod_lt_of_pos _ h⟩
set_option maxRecDepth 20000 in
theorem mod_any (x n r : Int) (w : World) (h : 0 < n ∧ n ≤ 9223372036854775807) (hr : IntKind.u64.wrap x % n = r) :
    Calls Try.prog 29 #[.int .i64 x, .int .i64 n] w (Ret fun v w' => v = .int .i64 r ∧ w' = w) := by
  have hn : IntKind.u64.wrap n = n := by show n % 18446744073709551616 = n; exact Int.emod_eq_of_lt (by omega) (by omega)
  have hx : 0 ≤ IntKind.u64.wrap x := by show 0 ≤ x % 18446744073709551616; exact Int.emod_nonneg _ (by decide)
  have h1 := Int.emod_nonneg (IntKind.u64.wrap x) (show n ≠ 0 by omega)
  have h2 := Int.emod_lt_of_pos (IntKind.u64.wrap x) h.1
  refine calls_of_wc (args := [.int .i64 x, .int .i64 n]) Try.func29 rfl ?_ ?_; kernel_rfl
  repeat' (first|refine za ?_|refine zA ?_|refine zB ?_|refine zb ?_|refine zc ?_|refine ze ?_|refine zd ?_|refine r_lss rfl rfl ?_|refine r_leq rfl rfl ?_|refine r_gtr rfl rfl ?_|refine r_geq rfl rfl ?_|refine r_eql rfl rfl ?_|refine r_neq rfl rfl ?_|refine zI ?_|refine zJ ?_|refine zK ?_|refine zL ?_|refine zM ?_|refine zN ?_|refine zO ?_|refine zP ?_|refine zQ ?_|refine zR ?_|refine zS ?_|refine zU ?_|refine zV ?_|refine zW ?_|refine zt (fun hcd => ?_) (fun hcd => ?_)|refine zu (fun hcd => ?_) (fun hcd => ?_)|refine zX ?_|refine zY ?_|refine zv (fun hcd => ?_) (fun hcd => ?_)|refine zk ?_|refine zl ?_|refine zm ?_|refine zn ?_|refine zf ?_|refine zg ?_|refine zj ?_|refine zZ ?_|refine zh ?_|refine zi ?_|refine zo ?_|refine zp ?_|refine zq ?_|refine zr ?_|refine zs ?_)
  refine r_conv ik3s ik100 rfl ?_
  repeat' (first|refine za ?_|refine zA ?_|refine zB ?_|refine zb ?_|refine zc ?_|refine ze ?_|refine zd ?_|refine r_lss rfl rfl ?_|refine r_leq rfl rfl ?_|refine r_gtr rfl rfl ?_|refine r_geq rfl rfl ?_|refine r_eql rfl rfl ?_|refine r_neq rfl rfl ?_|refine zI ?_|refine zJ ?_|refine zK ?_|refine zL ?_|refine zM ?_|refine zN ?_|refine zO ?_|refine zP ?_|refine zQ ?_|refine zR ?_|refine zS ?_|refine zU ?_|refine zV ?_|refine zW ?_|refine zt (fun hcd => ?_) (fun hcd => ?_)|refine zu (fun hcd => ?_) (fun hcd => ?_)|refine zX ?_|refine zY ?_|refine zv (fun hcd => ?_) (fun hcd => ?_)|refine zk ?_|refine zl ?_|refine zm ?_|refine zn ?_|refine zf ?_|refine zg ?_|refine zj ?_|refine zZ ?_|refine zh ?_|refine zi ?_|refine zo ?_|refine zp ?_|refine zq ?_|refine zr ?_|refine zs ?_)
  refine r_conv ik3s ik100 rfl ?_
  rw [hn]
  repeat' (first|refine za ?_|refine zA ?_|refine zB ?_|refine zb ?_|refine zc ?_|refine ze ?_|refine zd ?_|refine r_lss rfl rfl ?_|refine r_leq rfl rfl ?_|refine r_gtr rfl rfl ?_|refine r_geq rfl rfl ?_|refine r_eql rfl rfl ?_|refine r_neq rfl rfl ?_|refine zI ?_|refine zJ ?_|refine zK ?_|refine zL ?_|refine zM ?_|refine zN ?_|refine zO ?_|refine zP ?_|refine zQ ?_|refine zR ?_|refine zS ?_|refine zU ?_|refine zV ?_|refine zW ?_|refine zt (fun hcd => ?_) (fun hcd => ?_)|refine zu (fun hcd => ?_) (fun hcd => ?_)|refine zX ?_|refine zY ?_|refine zv (fun hcd => ?_) (fun hcd => ?_)|refine zk ?_|refine zl ?_|refine zm ?_|refine zn ?_|refine zf ?_|refine zg ?_|refine zj ?_|refine zZ ?_|refine zh ?_|refine zi ?_|refine zo ?_|refine zp ?_|refine zq ?_|refine zr ?_|refine zs ?_)
  refine r_rem_in rfl rfl hx h.1 ?_
  repeat' (first|refine za ?_|refine zA ?_|refine zB ?_|refine zb ?_|refine zc ?_|refine ze ?_|refine zd ?_|refine r_lss rfl rfl ?_|refine r_leq rfl rfl ?_|refine r_gtr rfl rfl ?_|refine r_geq rfl rfl ?_|refine r_eql rfl rfl ?_|refine r_neq rfl rfl ?_|refine zI ?_|refine zJ ?_|refine zK ?_|refine zL ?_|refine zM ?_|refine zN ?_|refine zO ?_|refine zP ?_|refine zQ ?_|refine zR ?_|refine zS ?_|refine zU ?_|refine zV ?_|refine zW ?_|refine zt (fun hcd => ?_) (fun hcd => ?_)|refine zu (fun hcd => ?_) (fun hcd => ?_)|refine zX ?_|refine zY ?_|refine zv (fun hcd => ?_) (fun hcd => ?_)|refine zk ?_|refine zl ?_|refine zm ?_|refine zn ?_|refine zf ?_|refine zg ?_|refine zj ?_|refine zZ ?_|refine zh ?_|refine zi ?_|refine zo ?_|refine zp ?_|refine zq ?_|refine zr ?_|refine zs ?_)
  refine r_conv ik100s ik3 rfl ?_
  rw [wrap_in (by omega) (by omega)]
  repeat' (first|refine za ?_|refine zA ?_|refine zB ?_|refine zb ?_|refine zc ?_|refine ze ?_|refine zd ?_|refine r_lss rfl rfl ?_|refine r_leq rfl rfl ?_|refine r_gtr rfl rfl ?_|refine r_geq rfl rfl ?_|refine r_eql rfl rfl ?_|refine r_neq rfl rfl ?_|refine zI ?_|refine zJ ?_|refine zK ?_|refine zL ?_|refine zM ?_|refine zN ?_|refine zO ?_|refine zP ?_|refine zQ ?_|refine zR ?_|refine zS ?_|refine zU ?_|refine zV ?_|refine zW ?_|refine zt (fun hcd => ?_) (fun hcd => ?_)|refine zu (fun hcd => ?_) (fun hcd => ?_)|refine zX ?_|refine zY ?_|refine zv (fun hcd => ?_) (fun hcd => ?_)|refine zk ?_|refine zl ?_|refine zm ?_|refine zn ?_|refine zf ?_|refine zg ?_|refine zj ?_|refine zZ ?_|refine zh ?_|refine zi ?_|refine zo ?_|refine zp ?_|refine zq ?_|refine zr ?_|refine zs ?_)
  refine post1 (v := .int .i64 ((IntKind.u64.wrap x) % n)) rfl rfl ?_
  exact ⟨congrArg _ hr, rfl⟩
set_option maxRecDepth 20000 in
theorem list_any (v : Value) (L : List Int) (w : World) (h : Ints w v L) :
    Calls Try.prog 17 #[v] w (Ret fun v' w' => OwnI w' w.heap.size 3 v' (L.take 11) ∧ Ext w w') := by
  obtain ⟨p, c, rfl, hc⟩ := h.slice
  refine calls_of_wc (args := [.slice p L.length c]) Try.func17 rfl ?_ ?_; kernel_rfl
  repeat' (first|refine za ?_|refine zA ?_|refine zB ?_|refine zb ?_|refine zc ?_|refine ze ?_|refine zd ?_|refine r_lss rfl rfl ?_|refine r_leq rfl rfl ?_|refine r_gtr rfl rfl ?_|refine r_geq rfl rfl ?_|refine r_eql rfl rfl ?_|refine r_neq rfl rfl ?_|refine zI ?_|refine zJ ?_|refine zK ?_|refine zL ?_|refine zM ?_|refine zN ?_|refine zO ?_|refine zP ?_|refine zQ ?_|refine zR ?_|refine zS ?_|refine zU ?_|refine zV ?_|refine zW ?_|refine zt (fun hcd => ?_) (fun hcd => ?_)|refine zu (fun hcd => ?_) (fun hcd => ?_)|refine zX ?_|refine zY ?_|refine zv (fun hcd => ?_) (fun hcd => ?_)|refine zk ?_|refine zl ?_|refine zm ?_|refine zn ?_|refine zf ?_|refine zg ?_|refine zj ?_|refine zZ ?_|refine zh ?_|refine zi ?_|refine zo ?_|refine zp ?_|refine zq ?_|refine zr ?_|refine zs ?_)
  refine r_min (c := ((min L.length 11 : Nat) : Int)) rfl rfl (by omega) ?_
  repeat' (first|refine za ?_|refine zA ?_|refine zB ?_|refine zb ?_|refine zc ?_|refine ze ?_|refine zd ?_|refine r_lss rfl rfl ?_|refine r_leq rfl rfl ?_|refine r_gtr rfl rfl ?_|refine r_geq rfl rfl ?_|refine r_eql rfl rfl ?_|refine r_neq rfl rfl ?_|refine zI ?_|refine zJ ?_|refine zK ?_|refine zL ?_|refine zM ?_|refine zN ?_|refine zO ?_|refine zP ?_|refine zQ ?_|refine zR ?_|refine zS ?_|refine zU ?_|refine zV ?_|refine zW ?_|refine zt (fun hcd => ?_) (fun hcd => ?_)|refine zu (fun hcd => ?_) (fun hcd => ?_)|refine zX ?_|refine zY ?_|refine zv (fun hcd => ?_) (fun hcd => ?_)|refine zk ?_|refine zl ?_|refine zm ?_|refine zn ?_|refine zf ?_|refine zg ?_|refine zj ?_|refine zZ ?_|refine zh ?_|refine zi ?_|refine zo ?_|refine zp ?_|refine zq ?_|refine zr ?_|refine zs ?_)
  refine r_slice_i (h' := min L.length 11) ss22 h rfl bnd_none ⟨_, rfl⟩ (by omega) (by omega) ?_
  intro q' c' hs _ _
  repeat' (first|refine za ?_|refine zA ?_|refine zB ?_|refine zb ?_|refine zc ?_|refine ze ?_|refine zd ?_|refine r_lss rfl rfl ?_|refine r_leq rfl rfl ?_|refine r_gtr rfl rfl ?_|refine r_geq rfl rfl ?_|refine r_eql rfl rfl ?_|refine r_neq rfl rfl ?_|refine zI ?_|refine zJ ?_|refine zK ?_|refine zL ?_|refine zM ?_|refine zN ?_|refine zO ?_|refine zP ?_|refine zQ ?_|refine zR ?_|refine zS ?_|refine zU ?_|refine zV ?_|refine zW ?_|refine zt (fun hcd => ?_) (fun hcd => ?_)|refine zu (fun hcd => ?_) (fun hcd => ?_)|refine zX ?_|refine zY ?_|refine zv (fun hcd => ?_) (fun hcd => ?_)|refine zk ?_|refine zl ?_|refine zm ?_|refine zn ?_|refine zf ?_|refine zg ?_|refine zj ?_|refine zZ ?_|refine zh ?_|refine zi ?_|refine zo ?_|refine zp ?_|refine zq ?_|refine zr ?_|refine zs ?_)
  refine r_append_i (A := []) (base := w.heap.size) el22 (World.ownsRow_nil _ _ _ _) hs rfl rfl (by simp; omega) (by omega) ?_
  intro v' w' h1 h2 h3 _
  repeat' (first|refine za ?_|refine zA ?_|refine zB ?_|refine zb ?_|refine zc ?_|refine ze ?_|refine zd ?_|refine r_lss rfl rfl ?_|refine r_leq rfl rfl ?_|refine r_gtr rfl rfl ?_|refine r_geq rfl rfl ?_|refine r_eql rfl rfl ?_|refine r_neq rfl rfl ?_|refine zI ?_|refine zJ ?_|refine zK ?_|refine zL ?_|refine zM ?_|refine zN ?_|refine zO ?_|refine zP ?_|refine zQ ?_|refine zR ?_|refine zS ?_|refine zU ?_|refine zV ?_|refine zW ?_|refine zt (fun hcd => ?_) (fun hcd => ?_)|refine zu (fun hcd => ?_) (fun hcd => ?_)|refine zX ?_|refine zY ?_|refine zv (fun hcd => ?_) (fun hcd => ?_)|refine zk ?_|refine zl ?_|refine zm ?_|refine zn ?_|refine zf ?_|refine zg ?_|refine zj ?_|refine zZ ?_|refine zh ?_|refine zi ?_|refine zo ?_|refine zp ?_|refine zq ?_|refine zr ?_|refine zs ?_)
  refine post1 (v := v') rfl rfl ?_
  have e : (L.drop 0).take (min L.length 11 - 0) = L.take 11 := by simp [List.take_eq_take_iff, Nat.min_comm]
  rw [e] at h1
  exact ⟨by simpa using h1, Ch.grown h2 (by intro k hk; cases hk)⟩
set_option maxRecDepth 20000 in
theorem short_any (s : Str) (w : World) : Calls Try.prog 21 #[str s] w (Ret fun v w' => v = str (s.take 60) ∧ w' = w) := by
  refine calls_of_wc (args := [str s]) Try.func21 rfl ?_ ?_; kernel_rfl
  repeat' (first|refine za ?_|refine zA ?_|refine zB ?_|refine zb ?_|refine zc ?_|refine ze ?_|refine zd ?_|refine zC ?_|refine zD ?_|refine zE ?_|refine zF ?_|refine zG ?_|refine zH ?_|refine zI ?_|refine zJ ?_|refine zK ?_|refine zL ?_|refine zM ?_|refine zN ?_|refine zO ?_|refine zP ?_|refine zQ ?_|refine zR ?_|refine zS ?_|refine zU ?_|refine zV ?_|refine zW ?_|refine zt (fun hcd => ?_) (fun hcd => ?_)|refine zu (fun hcd => ?_) (fun hcd => ?_)|refine zX ?_|refine zY ?_|refine zv (fun hcd => ?_) (fun hcd => ?_)|refine zk ?_|refine zl ?_|refine zm ?_|refine zn ?_|refine zf ?_|refine zg ?_|refine zj ?_|refine zZ ?_|refine zh ?_|refine zi ?_|refine zo ?_|refine zp ?_|refine zq ?_|refine zr ?_|refine zs ?_)
  refine zsl ?_
  repeat' (first|refine za ?_|refine zA ?_|refine zB ?_|refine zb ?_|refine zc ?_|refine ze ?_|refine zd ?_|refine zC ?_|refine zD ?_|refine zE ?_|refine zF ?_|refine zG ?_|refine zH ?_|refine zI ?_|refine zJ ?_|refine zK ?_|refine zL ?_|refine zM ?_|refine zN ?_|refine zO ?_|refine zP ?_|refine zQ ?_|refine zR ?_|refine zS ?_|refine zU ?_|refine zV ?_|refine zW ?_|refine zt (fun hcd => ?_) (fun hcd => ?_)|refine zu (fun hcd => ?_) (fun hcd => ?_)|refine zX ?_|refine zY ?_|refine zv (fun hcd => ?_) (fun hcd => ?_)|refine zk ?_|refine zl ?_|refine zm ?_|refine zn ?_|refine zf ?_|refine zg ?_|refine zj ?_|refine zZ ?_|refine zh ?_|refine zi ?_|refine zo ?_|refine zp ?_|refine zq ?_|refine zr ?_|refine zs ?_)
  refine r_min (c := ((min s.length 60 : Nat) : Int)) rfl rfl (by omega) ?_
  repeat' (first|refine za ?_|refine zA ?_|refine zB ?_|refine zb ?_|refine zc ?_|refine ze ?_|refine zd ?_|refine zC ?_|refine zD ?_|refine zE ?_|refine zF ?_|refine zG ?_|refine zH ?_|refine zI ?_|refine zJ ?_|refine zK ?_|refine zL ?_|refine zM ?_|refine zN ?_|refine zO ?_|refine zP ?_|refine zQ ?_|refine zR ?_|refine zS ?_|refine zU ?_|refine zV ?_|refine zW ?_|refine zt (fun hcd => ?_) (fun hcd => ?_)|refine zu (fun hcd => ?_) (fun hcd => ?_)|refine zX ?_|refine zY ?_|refine zv (fun hcd => ?_) (fun hcd => ?_)|refine zk ?_|refine zl ?_|refine zm ?_|refine zn ?_|refine zf ?_|refine zg ?_|refine zj ?_|refine zZ ?_|refine zh ?_|refine zi ?_|refine zo ?_|refine zp ?_|refine zq ?_|refine zr ?_|refine zs ?_)
  refine r_sto st9 rfl rfl (by omega) (by omega) ?_
  repeat' (first|refine za ?_|refine zA ?_|refine zB ?_|refine zb ?_|refine zc ?_|refine ze ?_|refine zd ?_|refine zC ?_|refine zD ?_|refine zE ?_|refine zF ?_|refine zG ?_|refine zH ?_|refine zI ?_|refine zJ ?_|refine zK ?_|refine zL ?_|refine zM ?_|refine zN ?_|refine zO ?_|refine zP ?_|refine zQ ?_|refine zR ?_|refine zS ?_|refine zU ?_|refine zV ?_|refine zW ?_|refine zt (fun hcd => ?_) (fun hcd => ?_)|refine zu (fun hcd => ?_) (fun hcd => ?_)|refine zX ?_|refine zY ?_|refine zv (fun hcd => ?_) (fun hcd => ?_)|refine zk ?_|refine zl ?_|refine zm ?_|refine zn ?_|refine zf ?_|refine zg ?_|refine zj ?_|refine zZ ?_|refine zh ?_|refine zi ?_|refine zo ?_|refine zp ?_|refine zq ?_|refine zr ?_|refine zs ?_)
  refine post1 (v := str (s.take (min s.length 60))) rfl rfl ?_
  exact ⟨by rw [show s.take (min s.length 60) = s.take 60 by simp [List.take_eq_take_iff, Nat.min_comm]], rfl⟩
set_option maxRecDepth 20000 in
set_option maxHeartbeats 1000000 in
theorem ints_any (v1 v2 : Value) (A B : List Int) (w : World) (h1 : Ints w v1 A) (h2 : Ints w v2 B) (hA : A.length < 9223372036854775807) (hB : B.length < 9223372036854775807) :
    Calls Try.prog 33 #[v1, v2] w (Ret fun v w' => v = .bool (decide (A = B)) ∧ Ext w w') := by
  obtain ⟨q1, c1, rfl, hq1⟩ := h1.slice
  obtain ⟨q2, c2, rfl, hq2⟩ := h2.slice
  refine calls_of_wc (args := [.slice q1 A.length c1, .slice q2 B.length c2]) Try.func33 rfl ?_ ?_; kernel_rfl
  repeat' (first|refine za ?_|refine zA ?_|refine zB ?_|refine zb ?_|refine zc ?_|refine ze ?_|refine zd ?_|refine r_lss rfl rfl ?_|refine r_leq rfl rfl ?_|refine r_gtr rfl rfl ?_|refine r_geq rfl rfl ?_|refine r_eql rfl rfl ?_|refine r_neq rfl rfl ?_|refine zI ?_|refine zJ ?_|refine zK ?_|refine zL ?_|refine zM ?_|refine zN ?_|refine zO ?_|refine zP ?_|refine zQ ?_|refine zR ?_|refine zS ?_|refine zU ?_|refine zV ?_|refine zW ?_|refine zt (fun hcd => ?_) (fun hcd => ?_)|refine zu (fun hcd => ?_) (fun hcd => ?_)|refine zX ?_|refine zY ?_|refine zv (fun hcd => ?_) (fun hcd => ?_)|refine zk ?_|refine zl ?_|refine zm ?_|refine zn ?_|refine zf ?_|refine zg ?_|refine zj ?_|refine zZ ?_|refine zh ?_|refine zi ?_|refine zo ?_|refine zp ?_|refine zq ?_|refine zr ?_|refine zs ?_)
  · refine post1 (v := .bool false) rfl rfl ?_
    exact ⟨congrArg Value.bool (decide_eq_false fun e => by subst e; omega).symm, Ext.refl _⟩
  have hl : A.length = B.length := by omega
  refine wc_loop [0, 1] (fun (k : Nat) => [(5, .int .i64 k)]) (fun k wk => Ext w wk ∧ k ≤ A.length ∧ ∀ j, j < k → A.getD j 0 = B.getD j 0) (fun k => A.length - k) 0 rfl ⟨rfl, trivial⟩ ⟨Ext.refl _, by omega, fun j hj => by omega⟩ ?_
  rintro k wk x ⟨hE, hk, hall⟩
  repeat' (first|refine za ?_|refine zA ?_|refine zB ?_|refine zb ?_|refine zc ?_|refine ze ?_|refine zd ?_|refine r_lss rfl rfl ?_|refine r_leq rfl rfl ?_|refine r_gtr rfl rfl ?_|refine r_geq rfl rfl ?_|refine r_eql rfl rfl ?_|refine r_neq rfl rfl ?_|refine zI ?_|refine zJ ?_|refine zK ?_|refine zL ?_|refine zM ?_|refine zN ?_|refine zO ?_|refine zP ?_|refine zQ ?_|refine zR ?_|refine zS ?_|refine zU ?_|refine zV ?_|refine zW ?_|refine zt (fun hcd => ?_) (fun hcd => ?_)|refine zu (fun hcd => ?_) (fun hcd => ?_)|refine zX ?_|refine zY ?_|refine zv (fun hcd => ?_) (fun hcd => ?_)|refine zk ?_|refine zl ?_|refine zm ?_|refine zn ?_|refine zf ?_|refine zg ?_|refine zj ?_|refine zZ ?_|refine zh ?_|refine zi ?_|refine zo ?_|refine zp ?_|refine zq ?_|refine zr ?_|refine zs ?_)
  · have hkA : k < A.length := by omega
    have hE' := hE.trans (Ext.drew wk)
    have g1 := (h1.ext hE').rd (i := k) hkA
    have g2 := (h2.ext hE').rd (i := k) (by omega)
    have p1 := h1.isSome (by omega)
    have p2 := h2.isSome (by omega)
    (refine wc_drawn 8 (by kernel_rfl) (by kernel_rfl) ?_; simp only [List.take_succ_cons, List.take_zero, List.drop_succ_cons, List.drop_zero])
    repeat' (first|refine za ?_|refine zA ?_|refine zB ?_|refine zb ?_|refine zc ?_|refine ze ?_|refine zd ?_|refine r_lss rfl rfl ?_|refine r_leq rfl rfl ?_|refine r_gtr rfl rfl ?_|refine r_geq rfl rfl ?_|refine r_eql rfl rfl ?_|refine r_neq rfl rfl ?_|refine zI ?_|refine zJ ?_|refine zK ?_|refine zL ?_|refine zM ?_|refine zN ?_|refine zO ?_|refine zP ?_|refine zQ ?_|refine zR ?_|refine zS ?_|refine zU ?_|refine zV ?_|refine zW ?_|refine zt (fun hcd => ?_) (fun hcd => ?_)|refine zu (fun hcd => ?_) (fun hcd => ?_)|refine zX ?_|refine zY ?_|refine zv (fun hcd => ?_) (fun hcd => ?_)|refine zk ?_|refine zl ?_|refine zm ?_|refine zn ?_|refine zf ?_|refine zg ?_|refine zj ?_|refine zZ ?_|refine zh ?_|refine zi ?_|refine zo ?_|refine zp ?_|refine zq ?_|refine zr ?_|refine zs ?_)
    · refine post1 (v := .bool false) rfl rfl ?_
      exact ⟨congrArg Value.bool (decide_eq_false fun e => by subst e; exact absurd rfl hcd).symm, hE'⟩
    · refine ⟨k + 1, ⟨rfl, trivial⟩, ⟨hE', by omega, fun j hj => ?_⟩, by omega⟩
      by_cases e : j = k
      · subst e; omega
      · exact hall j (by omega)
  · refine post1 (v := .bool true) rfl rfl ?_
    exact ⟨congrArg Value.bool (decide_eq_true ((list_eq_iff hl).2 fun j hj => hall j (by omega))).symm, hE⟩
set_option maxRecDepth 20000 in
set_option maxHeartbeats 1000000 in
theorem texts_any (v1 v2 : Value) (A B : List Str) (w : World) (h1 : Strs w v1 A) (h2 : Strs w v2 B) (hA : A.length < 9223372036854775807) (hB : B.length < 9223372036854775807) :
    Calls Try.prog 35 #[v1, v2] w (Ret fun v w' => v = .bool (decide (A = B)) ∧ Ext w w') := by
  obtain ⟨q1, c1, rfl, hq1⟩ := h1.slice
  obtain ⟨q2, c2, rfl, hq2⟩ := h2.slice
  refine calls_of_wc (args := [.slice q1 A.length c1, .slice q2 B.length c2]) Try.func35 rfl ?_ ?_; kernel_rfl
  repeat' (first|refine za ?_|refine zA ?_|refine zB ?_|refine zb ?_|refine zc ?_|refine ze ?_|refine zd ?_|refine r_lss rfl rfl ?_|refine r_leq rfl rfl ?_|refine r_gtr rfl rfl ?_|refine r_geq rfl rfl ?_|refine r_eql rfl rfl ?_|refine r_neq rfl rfl ?_|refine zI ?_|refine zJ ?_|refine zK ?_|refine zL ?_|refine zM ?_|refine zN ?_|refine zO ?_|refine zP ?_|refine zQ ?_|refine zR ?_|refine zS ?_|refine zU ?_|refine zV ?_|refine zW ?_|refine zt (fun hcd => ?_) (fun hcd => ?_)|refine zu (fun hcd => ?_) (fun hcd => ?_)|refine zX ?_|refine zY ?_|refine zv (fun hcd => ?_) (fun hcd => ?_)|refine zk ?_|refine zl ?_|refine zm ?_|refine zn ?_|refine zf ?_|refine zg ?_|refine zj ?_|refine zZ ?_|refine zh ?_|refine zi ?_|refine zo ?_|refine zp ?_|refine zq ?_|refine zr ?_|refine zs ?_)
  · refine post1 (v := .bool false) rfl rfl ?_
    exact ⟨congrArg Value.bool (decide_eq_false fun e => by subst e; omega).symm, Ext.refl _⟩
  have hl : A.length = B.length := by omega
  refine wc_loop [0, 1] (fun (k : Nat) => [(5, .int .i64 k)]) (fun k wk => Ext w wk ∧ k ≤ A.length ∧ ∀ j, j < k → A.getD j [] = B.getD j []) (fun k => A.length - k) 0 rfl ⟨rfl, trivial⟩ ⟨Ext.refl _, by omega, fun j hj => by omega⟩ ?_
  rintro k wk x ⟨hE, hk, hall⟩
  repeat' (first|refine za ?_|refine zA ?_|refine zB ?_|refine zb ?_|refine zc ?_|refine ze ?_|refine zd ?_|refine r_lss rfl rfl ?_|refine r_leq rfl rfl ?_|refine r_gtr rfl rfl ?_|refine r_geq rfl rfl ?_|refine r_eql rfl rfl ?_|refine r_neq rfl rfl ?_|refine zI ?_|refine zJ ?_|refine zK ?_|refine zL ?_|refine zM ?_|refine zN ?_|refine zO ?_|refine zP ?_|refine zQ ?_|refine zR ?_|refine zS ?_|refine zU ?_|refine zV ?_|refine zW ?_|refine zt (fun hcd => ?_) (fun hcd => ?_)|refine zu (fun hcd => ?_) (fun hcd => ?_)|refine zX ?_|refine zY ?_|refine zv (fun hcd => ?_) (fun hcd => ?_)|refine zk ?_|refine zl ?_|refine zm ?_|refine zn ?_|refine zf ?_|refine zg ?_|refine zj ?_|refine zZ ?_|refine zh ?_|refine zi ?_|refine zo ?_|refine zp ?_|refine zq ?_|refine zr ?_|refine zs ?_)
  · have hkA : k < A.length := by omega
    have hE' := hE.trans (Ext.drew wk)
    have g1 := strs_get0 (h1.ext hE') hkA (j := (k : Int)) rfl
    have g2 := strs_get0 (h2.ext hE') (by omega : k < B.length) (j := (k : Int)) rfl
    have p1 := h1.isSome (by omega)
    have p2 := h2.isSome (by omega)
    generalize hga : A.getD k [] = a at *
    generalize hgb : B.getD k [] = b at *
    refine wc_drawn 8 (by kernel_rfl) (by kernel_rfl) ?_
    repeat' (first|refine za ?_|refine zA ?_|refine zB ?_|refine zb ?_|refine zc ?_|refine ze ?_|refine zd ?_|refine r_lss rfl rfl ?_|refine r_leq rfl rfl ?_|refine r_gtr rfl rfl ?_|refine r_geq rfl rfl ?_|refine r_eql rfl rfl ?_|refine r_neq rfl rfl ?_|refine zI ?_|refine zJ ?_|refine zK ?_|refine zL ?_|refine zM ?_|refine zN ?_|refine zO ?_|refine zP ?_|refine zQ ?_|refine zR ?_|refine zS ?_|refine zU ?_|refine zV ?_|refine zW ?_|refine zt (fun hcd => ?_) (fun hcd => ?_)|refine zu (fun hcd => ?_) (fun hcd => ?_)|refine zX ?_|refine zY ?_|refine zv (fun hcd => ?_) (fun hcd => ?_)|refine zk ?_|refine zl ?_|refine zm ?_|refine zn ?_|refine zf ?_|refine zg ?_|refine zj ?_|refine zZ ?_|refine zh ?_|refine zi ?_|refine zo ?_|refine zp ?_|refine zq ?_|refine zr ?_|refine zs ?_)
    refine r_sneq (a := a) (b := b) rfl rfl ?_
    repeat' (first|refine za ?_|refine zA ?_|refine zB ?_|refine zb ?_|refine zc ?_|refine ze ?_|refine zd ?_|refine r_lss rfl rfl ?_|refine r_leq rfl rfl ?_|refine r_gtr rfl rfl ?_|refine r_geq rfl rfl ?_|refine r_eql rfl rfl ?_|refine r_neq rfl rfl ?_|refine zI ?_|refine zJ ?_|refine zK ?_|refine zL ?_|refine zM ?_|refine zN ?_|refine zO ?_|refine zP ?_|refine zQ ?_|refine zR ?_|refine zS ?_|refine zU ?_|refine zV ?_|refine zW ?_|refine zt (fun hcd => ?_) (fun hcd => ?_)|refine zu (fun hcd => ?_) (fun hcd => ?_)|refine zX ?_|refine zY ?_|refine zv (fun hcd => ?_) (fun hcd => ?_)|refine zk ?_|refine zl ?_|refine zm ?_|refine zn ?_|refine zf ?_|refine zg ?_|refine zj ?_|refine zZ ?_|refine zh ?_|refine zi ?_|refine zo ?_|refine zp ?_|refine zq ?_|refine zr ?_|refine zs ?_)
    · refine post1 (v := .bool false) rfl rfl ?_
      exact ⟨congrArg Value.bool (decide_eq_false fun e => hcd (by rw [← hga, ← hgb, e])).symm, hE'⟩
    · have hab := Decidable.not_not.1 hcd
      refine ⟨k + 1, ⟨rfl, trivial⟩, ⟨hE', by omega, fun j hj => ?_⟩, by omega⟩
      by_cases e : j = k
      · subst e; rw [hga, hgb]; exact hab
      · exact hall j (by omega)
  · refine post1 (v := .bool true) rfl rfl ?_
    exact ⟨congrArg Value.bool (decide_eq_true (list_extS hl fun j hj => hall j (by omega))).symm, hE⟩
set_option maxRecDepth 20000 in
set_option maxHeartbeats 2000000 in
theorem grownL_any : ∀ (n : Nat) (v : Value) (L : List Int) (at_ : Nat) (w : World), n ≤ 1000 → Ints w v L → L.length ≤ 9223372036854775807 → at_ + 2 * n ≤ 1000000 →
    Calls Try.prog 74 #[v, .int .i64 (at_ : Int), .int .i64 (n : Int)] w (Ret fun v' w' => Ext w w' ∧ ∃ (t : T) (m : Nat), t.size = n ∧ m ≤ at_ + 2 * n ∧ v' = .tuple #[str t.text, .int .i64 (m : Int)]) := by
  intro n
  induction n using Nat.strongRecOn with
  | _ n ih =>
    intro v L at_ w hn h hL hat
    obtain ⟨q, c, rfl, hqc⟩ := h.slice
    refine calls_of_wc (args := [.slice q L.length c, .int .i64 (at_ : Int), .int .i64 (n : Int)]) Try.func74 rfl ?_ ?_; kernel_rfl
    by_cases h0 : n = 0
    · subst h0
      repeat' (first|refine za ?_|refine zA ?_|refine zB ?_|refine zb ?_|refine zc ?_|refine ze ?_|refine zd ?_|refine zC ?_|refine zD ?_|refine zE ?_|refine zF ?_|refine zG ?_|refine zH ?_|refine zI ?_|refine zJ ?_|refine zK ?_|refine zL ?_|refine zM ?_|refine zN ?_|refine zO ?_|refine zP ?_|refine zQ ?_|refine zR ?_|refine zS ?_|refine zU ?_|refine zV ?_|refine zW ?_|refine zt (fun hcd => ?_) (fun hcd => ?_)|refine zu (fun hcd => ?_) (fun hcd => ?_)|refine zX ?_|refine zY ?_|refine zv (fun hcd => ?_) (fun hcd => ?_)|refine zk ?_|refine zl ?_|refine zm ?_|refine zn ?_|refine zf ?_|refine zg ?_|refine zj ?_|refine zZ ?_|refine zh ?_|refine zi ?_|refine zo ?_|refine zp ?_|refine zq ?_|refine zr ?_|refine zs ?_)
      refine post2 (v1 := str T.lf.text) (v2 := .int .i64 (at_ : Int)) rfl rfl rfl ?_
      exact ⟨Ext.refl _, .lf, at_, rfl, by omega, rfl⟩
    by_cases hl : at_ < L.length
    · have hps := h.isSome (by omega)
      have hrd := ints_get0 h hl (j := (at_ : Int)) rfl
      generalize L.getD at_ 0 = a0 at *
      have hb := mod_bnd a0 (n := (n : Int)) (by omega)
      obtain ⟨k, hk⟩ : ∃ k : Nat, IntKind.u64.wrap a0 % (n : Int) = k := ⟨(IntKind.u64.wrap a0 % (n : Int)).toNat, by omega⟩
      repeat' (first|refine za ?_|refine zA ?_|refine zB ?_|refine zb ?_|refine zc ?_|refine ze ?_|refine zd ?_|refine zC ?_|refine zD ?_|refine zE ?_|refine zF ?_|refine zG ?_|refine zH ?_|refine zI ?_|refine zJ ?_|refine zK ?_|refine zL ?_|refine zM ?_|refine zN ?_|refine zO ?_|refine zP ?_|refine zQ ?_|refine zR ?_|refine zS ?_|refine zU ?_|refine zV ?_|refine zW ?_|refine zt (fun hcd => ?_) (fun hcd => ?_)|refine zu (fun hcd => ?_) (fun hcd => ?_)|refine zX ?_|refine zY ?_|refine zv (fun hcd => ?_) (fun hcd => ?_)|refine zk ?_|refine zl ?_|refine zm ?_|refine zn ?_|refine zf ?_|refine zg ?_|refine zj ?_|refine zZ ?_|refine zh ?_|refine zi ?_|refine zo ?_|refine zp ?_|refine zq ?_|refine zr ?_|refine zs ?_)
      (refine r_call_q (v := ?_) rfl ?_ ?_; rotate_left 1; focus exact mod_any a0 n k w (by omega) hk)
      repeat' (first|refine za ?_|refine zA ?_|refine zB ?_|refine zb ?_|refine zc ?_|refine ze ?_|refine zd ?_|refine zC ?_|refine zD ?_|refine zE ?_|refine zF ?_|refine zG ?_|refine zH ?_|refine zI ?_|refine zJ ?_|refine zK ?_|refine zL ?_|refine zM ?_|refine zN ?_|refine zO ?_|refine zP ?_|refine zQ ?_|refine zR ?_|refine zS ?_|refine zU ?_|refine zV ?_|refine zW ?_|refine zt (fun hcd => ?_) (fun hcd => ?_)|refine zu (fun hcd => ?_) (fun hcd => ?_)|refine zX ?_|refine zY ?_|refine zv (fun hcd => ?_) (fun hcd => ?_)|refine zk ?_|refine zl ?_|refine zm ?_|refine zn ?_|refine zf ?_|refine zg ?_|refine zj ?_|refine zZ ?_|refine zh ?_|refine zi ?_|refine zo ?_|refine zp ?_|refine zq ?_|refine zr ?_|refine zs ?_)
      (refine r_call (R := ?_) rfl ?_ ?_; rotate_left 1; focus exact ih k (by omega) _ L (at_ + 1) w (by omega) h hL (by omega))
      rintro v1 w1 ⟨hE1, a, m1, ha, hm1, rfl⟩
      have la := a.text_len
      repeat' (first|refine za ?_|refine zA ?_|refine zB ?_|refine zb ?_|refine zc ?_|refine ze ?_|refine zd ?_|refine zC ?_|refine zD ?_|refine zE ?_|refine zF ?_|refine zG ?_|refine zH ?_|refine zI ?_|refine zJ ?_|refine zK ?_|refine zL ?_|refine zM ?_|refine zN ?_|refine zO ?_|refine zP ?_|refine zQ ?_|refine zR ?_|refine zS ?_|refine zU ?_|refine zV ?_|refine zW ?_|refine zt (fun hcd => ?_) (fun hcd => ?_)|refine zu (fun hcd => ?_) (fun hcd => ?_)|refine zX ?_|refine zY ?_|refine zv (fun hcd => ?_) (fun hcd => ?_)|refine zk ?_|refine zl ?_|refine zm ?_|refine zn ?_|refine zf ?_|refine zg ?_|refine zj ?_|refine zZ ?_|refine zh ?_|refine zi ?_|refine zo ?_|refine zp ?_|refine zq ?_|refine zr ?_|refine zs ?_)
      have e2 : (n : Int) - 1 - k = ((n - 1 - k : Nat) : Int) := by omega
      rw [e2]
      (refine r_call (R := ?_) rfl ?_ ?_; rotate_left 1; focus exact ih (n - 1 - k) (by omega) _ L m1 w1 (by omega) (h.ext hE1) hL (by omega))
      rintro v2 w2 ⟨hE2, b, m2, hb, hm2, rfl⟩
      have lb := b.text_len
      repeat' (first|refine za ?_|refine zA ?_|refine zB ?_|refine zb ?_|refine zc ?_|refine ze ?_|refine zd ?_|refine zC ?_|refine zD ?_|refine zE ?_|refine zF ?_|refine zG ?_|refine zH ?_|refine zI ?_|refine zJ ?_|refine zK ?_|refine zL ?_|refine zM ?_|refine zN ?_|refine zO ?_|refine zP ?_|refine zQ ?_|refine zR ?_|refine zS ?_|refine zU ?_|refine zV ?_|refine zW ?_|refine zt (fun hcd => ?_) (fun hcd => ?_)|refine zu (fun hcd => ?_) (fun hcd => ?_)|refine zX ?_|refine zY ?_|refine zv (fun hcd => ?_) (fun hcd => ?_)|refine zk ?_|refine zl ?_|refine zm ?_|refine zn ?_|refine zf ?_|refine zg ?_|refine zj ?_|refine zZ ?_|refine zh ?_|refine zi ?_|refine zo ?_|refine zp ?_|refine zq ?_|refine zr ?_|refine zs ?_)
      refine zsa [40] a.text ?_
      repeat' (first|refine za ?_|refine zA ?_|refine zB ?_|refine zb ?_|refine zc ?_|refine ze ?_|refine zd ?_|refine zC ?_|refine zD ?_|refine zE ?_|refine zF ?_|refine zG ?_|refine zH ?_|refine zI ?_|refine zJ ?_|refine zK ?_|refine zL ?_|refine zM ?_|refine zN ?_|refine zO ?_|refine zP ?_|refine zQ ?_|refine zR ?_|refine zS ?_|refine zU ?_|refine zV ?_|refine zW ?_|refine zt (fun hcd => ?_) (fun hcd => ?_)|refine zu (fun hcd => ?_) (fun hcd => ?_)|refine zX ?_|refine zY ?_|refine zv (fun hcd => ?_) (fun hcd => ?_)|refine zk ?_|refine zl ?_|refine zm ?_|refine zn ?_|refine zf ?_|refine zg ?_|refine zj ?_|refine zZ ?_|refine zh ?_|refine zi ?_|refine zo ?_|refine zp ?_|refine zq ?_|refine zr ?_|refine zs ?_)
      refine zsa ([40] ++ a.text) b.text ?_
      repeat' (first|refine za ?_|refine zA ?_|refine zB ?_|refine zb ?_|refine zc ?_|refine ze ?_|refine zd ?_|refine zC ?_|refine zD ?_|refine zE ?_|refine zF ?_|refine zG ?_|refine zH ?_|refine zI ?_|refine zJ ?_|refine zK ?_|refine zL ?_|refine zM ?_|refine zN ?_|refine zO ?_|refine zP ?_|refine zQ ?_|refine zR ?_|refine zS ?_|refine zU ?_|refine zV ?_|refine zW ?_|refine zt (fun hcd => ?_) (fun hcd => ?_)|refine zu (fun hcd => ?_) (fun hcd => ?_)|refine zX ?_|refine zY ?_|refine zv (fun hcd => ?_) (fun hcd => ?_)|refine zk ?_|refine zl ?_|refine zm ?_|refine zn ?_|refine zf ?_|refine zg ?_|refine zj ?_|refine zZ ?_|refine zh ?_|refine zi ?_|refine zo ?_|refine zp ?_|refine zq ?_|refine zr ?_|refine zs ?_)
      refine zsa ([40] ++ a.text ++ b.text) [41] ?_
      repeat' (first|refine za ?_|refine zA ?_|refine zB ?_|refine zb ?_|refine zc ?_|refine ze ?_|refine zd ?_|refine zC ?_|refine zD ?_|refine zE ?_|refine zF ?_|refine zG ?_|refine zH ?_|refine zI ?_|refine zJ ?_|refine zK ?_|refine zL ?_|refine zM ?_|refine zN ?_|refine zO ?_|refine zP ?_|refine zQ ?_|refine zR ?_|refine zS ?_|refine zU ?_|refine zV ?_|refine zW ?_|refine zt (fun hcd => ?_) (fun hcd => ?_)|refine zu (fun hcd => ?_) (fun hcd => ?_)|refine zX ?_|refine zY ?_|refine zv (fun hcd => ?_) (fun hcd => ?_)|refine zk ?_|refine zl ?_|refine zm ?_|refine zn ?_|refine zf ?_|refine zg ?_|refine zj ?_|refine zZ ?_|refine zh ?_|refine zi ?_|refine zo ?_|refine zp ?_|refine zq ?_|refine zr ?_|refine zs ?_)
      refine post2 (v1 := str (T.nd a b).text) (v2 := .int .i64 (m2 : Int)) rfl rfl rfl ?_
      exact ⟨hE1.trans hE2, .nd a b, m2, by simp only [T.size]; omega, by omega, rfl⟩
    · repeat' (first|refine za ?_|refine zA ?_|refine zB ?_|refine zb ?_|refine zc ?_|refine ze ?_|refine zd ?_|refine zC ?_|refine zD ?_|refine zE ?_|refine zF ?_|refine zG ?_|refine zH ?_|refine zI ?_|refine zJ ?_|refine zK ?_|refine zL ?_|refine zM ?_|refine zN ?_|refine zO ?_|refine zP ?_|refine zQ ?_|refine zR ?_|refine zS ?_|refine zU ?_|refine zV ?_|refine zW ?_|refine zt (fun hcd => ?_) (fun hcd => ?_)|refine zu (fun hcd => ?_) (fun hcd => ?_)|refine zX ?_|refine zY ?_|refine zv (fun hcd => ?_) (fun hcd => ?_)|refine zk ?_|refine zl ?_|refine zm ?_|refine zn ?_|refine zf ?_|refine zg ?_|refine zj ?_|refine zZ ?_|refine zh ?_|refine zi ?_|refine zo ?_|refine zp ?_|refine zq ?_|refine zr ?_|refine zs ?_)
      (refine r_call (R := ?_) rfl ?_ ?_; rotate_left 1; focus exact ih 0 (by omega) _ L (at_ + 1) w (by omega) h hL (by omega))
      rintro v1 w1 ⟨hE1, a, m1, ha, hm1, rfl⟩
      have la := a.text_len
      repeat' (first|refine za ?_|refine zA ?_|refine zB ?_|refine zb ?_|refine zc ?_|refine ze ?_|refine zd ?_|refine zC ?_|refine zD ?_|refine zE ?_|refine zF ?_|refine zG ?_|refine zH ?_|refine zI ?_|refine zJ ?_|refine zK ?_|refine zL ?_|refine zM ?_|refine zN ?_|refine zO ?_|refine zP ?_|refine zQ ?_|refine zR ?_|refine zS ?_|refine zU ?_|refine zV ?_|refine zW ?_|refine zt (fun hcd => ?_) (fun hcd => ?_)|refine zu (fun hcd => ?_) (fun hcd => ?_)|refine zX ?_|refine zY ?_|refine zv (fun hcd => ?_) (fun hcd => ?_)|refine zk ?_|refine zl ?_|refine zm ?_|refine zn ?_|refine zf ?_|refine zg ?_|refine zj ?_|refine zZ ?_|refine zh ?_|refine zi ?_|refine zo ?_|refine zp ?_|refine zq ?_|refine zr ?_|refine zs ?_)
      have e2 : (n : Int) - 1 - 0 = ((n - 1 - 0 : Nat) : Int) := by omega
      rw [e2]
      (refine r_call (R := ?_) rfl ?_ ?_; rotate_left 1; focus exact ih (n - 1 - 0) (by omega) _ L m1 w1 (by omega) (h.ext hE1) hL (by omega))
      rintro v2 w2 ⟨hE2, b, m2, hb, hm2, rfl⟩
      have lb := b.text_len
      repeat' (first|refine za ?_|refine zA ?_|refine zB ?_|refine zb ?_|refine zc ?_|refine ze ?_|refine zd ?_|refine zC ?_|refine zD ?_|refine zE ?_|refine zF ?_|refine zG ?_|refine zH ?_|refine zI ?_|refine zJ ?_|refine zK ?_|refine zL ?_|refine zM ?_|refine zN ?_|refine zO ?_|refine zP ?_|refine zQ ?_|refine zR ?_|refine zS ?_|refine zU ?_|refine zV ?_|refine zW ?_|refine zt (fun hcd => ?_) (fun hcd => ?_)|refine zu (fun hcd => ?_) (fun hcd => ?_)|refine zX ?_|refine zY ?_|refine zv (fun hcd => ?_) (fun hcd => ?_)|refine zk ?_|refine zl ?_|refine zm ?_|refine zn ?_|refine zf ?_|refine zg ?_|refine zj ?_|refine zZ ?_|refine zh ?_|refine zi ?_|refine zo ?_|refine zp ?_|refine zq ?_|refine zr ?_|refine zs ?_)
      refine zsa [40] a.text ?_
      repeat' (first|refine za ?_|refine zA ?_|refine zB ?_|refine zb ?_|refine zc ?_|refine ze ?_|refine zd ?_|refine zC ?_|refine zD ?_|refine zE ?_|refine zF ?_|refine zG ?_|refine zH ?_|refine zI ?_|refine zJ ?_|refine zK ?_|refine zL ?_|refine zM ?_|refine zN ?_|refine zO ?_|refine zP ?_|refine zQ ?_|refine zR ?_|refine zS ?_|refine zU ?_|refine zV ?_|refine zW ?_|refine zt (fun hcd => ?_) (fun hcd => ?_)|refine zu (fun hcd => ?_) (fun hcd => ?_)|refine zX ?_|refine zY ?_|refine zv (fun hcd => ?_) (fun hcd => ?_)|refine zk ?_|refine zl ?_|refine zm ?_|refine zn ?_|refine zf ?_|refine zg ?_|refine zj ?_|refine zZ ?_|refine zh ?_|refine zi ?_|refine zo ?_|refine zp ?_|refine zq ?_|refine zr ?_|refine zs ?_)
      refine zsa ([40] ++ a.text) b.text ?_
      repeat' (first|refine za ?_|refine zA ?_|refine zB ?_|refine zb ?_|refine zc ?_|refine ze ?_|refine zd ?_|refine zC ?_|refine zD ?_|refine zE ?_|refine zF ?_|refine zG ?_|refine zH ?_|refine zI ?_|refine zJ ?_|refine zK ?_|refine zL ?_|refine zM ?_|refine zN ?_|refine zO ?_|refine zP ?_|refine zQ ?_|refine zR ?_|refine zS ?_|refine zU ?_|refine zV ?_|refine zW ?_|refine zt (fun hcd => ?_) (fun hcd => ?_)|refine zu (fun hcd => ?_) (fun hcd => ?_)|refine zX ?_|refine zY ?_|refine zv (fun hcd => ?_) (fun hcd => ?_)|refine zk ?_|refine zl ?_|refine zm ?_|refine zn ?_|refine zf ?_|refine zg ?_|refine zj ?_|refine zZ ?_|refine zh ?_|refine zi ?_|refine zo ?_|refine zp ?_|refine zq ?_|refine zr ?_|refine zs ?_)
      refine zsa ([40] ++ a.text ++ b.text) [41] ?_
      repeat' (first|refine za ?_|refine zA ?_|refine zB ?_|refine zb ?_|refine zc ?_|refine ze ?_|refine zd ?_|refine zC ?_|refine zD ?_|refine zE ?_|refine zF ?_|refine zG ?_|refine zH ?_|refine zI ?_|refine zJ ?_|refine zK ?_|refine zL ?_|refine zM ?_|refine zN ?_|refine zO ?_|refine zP ?_|refine zQ ?_|refine zR ?_|refine zS ?_|refine zU ?_|refine zV ?_|refine zW ?_|refine zt (fun hcd => ?_) (fun hcd => ?_)|refine zu (fun hcd => ?_) (fun hcd => ?_)|refine zX ?_|refine zY ?_|refine zv (fun hcd => ?_) (fun hcd => ?_)|refine zk ?_|refine zl ?_|refine zm ?_|refine zn ?_|refine zf ?_|refine zg ?_|refine zj ?_|refine zZ ?_|refine zh ?_|refine zi ?_|refine zo ?_|refine zp ?_|refine zq ?_|refine zr ?_|refine zs ?_)
      refine post2 (v1 := str (T.nd a b).text) (v2 := .int .i64 (m2 : Int)) rfl rfl rfl ?_
      exact ⟨hE1.trans hE2, .nd a b, m2, by simp only [T.size]; omega, by omega, rfl⟩
set_option maxRecDepth 20000 in
theorem treeL_any (v : Value) (L : List Int) (n : Nat) (w : World) (hn : n ≤ 1000) (h : Ints w v L) (hL : L.length ≤ 9223372036854775807) :
    Calls Try.prog 30 #[v, .int .i64 (n : Int)] w (Ret fun v' w' => Ext w w' ∧ ∃ t : T, t.size = n ∧ v' = str t.text) := by
  obtain ⟨q, c, rfl, hqc⟩ := h.slice
  refine calls_of_wc (args := [.slice q L.length c, .int .i64 (n : Int)]) Try.func30 rfl ?_ ?_; kernel_rfl
  repeat' (first|refine za ?_|refine zA ?_|refine zB ?_|refine zb ?_|refine zc ?_|refine ze ?_|refine zd ?_|refine zC ?_|refine zD ?_|refine zE ?_|refine zF ?_|refine zG ?_|refine zH ?_|refine zI ?_|refine zJ ?_|refine zK ?_|refine zL ?_|refine zM ?_|refine zN ?_|refine zO ?_|refine zP ?_|refine zQ ?_|refine zR ?_|refine zS ?_|refine zU ?_|refine zV ?_|refine zW ?_|refine zt (fun hcd => ?_) (fun hcd => ?_)|refine zu (fun hcd => ?_) (fun hcd => ?_)|refine zX ?_|refine zY ?_|refine zv (fun hcd => ?_) (fun hcd => ?_)|refine zk ?_|refine zl ?_|refine zm ?_|refine zn ?_|refine zf ?_|refine zg ?_|refine zj ?_|refine zZ ?_|refine zh ?_|refine zi ?_|refine zo ?_|refine zp ?_|refine zq ?_|refine zr ?_|refine zs ?_)
  (refine r_call (R := ?_) rfl ?_ ?_; rotate_left 1; focus exact grownL_any n _ L 0 w hn h hL (by omega))
  rintro v1 w1 ⟨hE1, t, m, ht, hm, rfl⟩
  repeat' (first|refine za ?_|refine zA ?_|refine zB ?_|refine zb ?_|refine zc ?_|refine ze ?_|refine zd ?_|refine zC ?_|refine zD ?_|refine zE ?_|refine zF ?_|refine zG ?_|refine zH ?_|refine zI ?_|refine zJ ?_|refine zK ?_|refine zL ?_|refine zM ?_|refine zN ?_|refine zO ?_|refine zP ?_|refine zQ ?_|refine zR ?_|refine zS ?_|refine zU ?_|refine zV ?_|refine zW ?_|refine zt (fun hcd => ?_) (fun hcd => ?_)|refine zu (fun hcd => ?_) (fun hcd => ?_)|refine zX ?_|refine zY ?_|refine zv (fun hcd => ?_) (fun hcd => ?_)|refine zk ?_|refine zl ?_|refine zm ?_|refine zn ?_|refine zf ?_|refine zg ?_|refine zj ?_|refine zZ ?_|refine zh ?_|refine zi ?_|refine zo ?_|refine zp ?_|refine zq ?_|refine zr ?_|refine zs ?_)
  refine post1 (v := str t.text) rfl rfl ?_
  exact ⟨hE1, t, ht, rfl⟩
/- awake. -/
def xA : T := .nd (.nd (.nd .lf .lf) .lf) .lf
def yA : T := .nd .lf (.nd .lf (.nd .lf .lf))
theorem lpA : IsLp xA yA 3 := by
  have h := lpF_spec 4 xA yA rfl (by decide) (by decide)
  rwa [show lpF 4 xA yA = 3 by decide +kernel] at h
theorem distA : dist xA yA = 2 := by
  have h2 : pathN 2 xA yA := ⟨.nd (.nd .lf .lf) (.nd .lf .lf), by decide, yA, by decide, rfl⟩
  have hle := dist_le h2
  have hp := dist_path (x := xA) (y := yA) rfl
  generalize dist xA yA = d at *
  rcases d with _ | _ | d
  · have : xA = yA := hp
    exact absurd this (by decide)
  · obtain ⟨z, hz, e⟩ := hp
    have e' : z = yA := e
    subst e'
    exact absurd hz (by decide)
  · omega
theorem two_ints (a b : Int) (w1 : World) (v : Value) (h : Gv.Own w1 w1.heap.size 3 v [.int .i64 a, .int .i64 b]) : Ints w1 v [a, b] := by
  simpa [Ints, ints] using Gv.Own.sl h
set_option maxRecDepth 20000 in
set_option maxHeartbeats 4000000 in
theorem awake_any (w : World) : Calls Try.prog 20 #[] w (Ret fun v w' => v = .bool true ∧ Ext w w') := by
  refine calls_of_wc (args := []) Try.func20 rfl ?_ ?_; kernel_rfl
  repeat' (first|refine za ?_|refine zA ?_|refine zB ?_|refine zb ?_|refine zc ?_|refine ze ?_|refine zd ?_|refine zC ?_|refine zD ?_|refine zE ?_|refine zF ?_|refine zG ?_|refine zH ?_|refine zI ?_|refine zJ ?_|refine zK ?_|refine zL ?_|refine zM ?_|refine zN ?_|refine zO ?_|refine zP ?_|refine zQ ?_|refine zR ?_|refine zS ?_|refine zU ?_|refine zV ?_|refine zW ?_|refine zt (fun hcd => ?_) (fun hcd => ?_)|refine zu (fun hcd => ?_) (fun hcd => ?_)|refine zX ?_|refine zY ?_|refine zv (fun hcd => ?_) (fun hcd => ?_)|refine zk ?_|refine zl ?_|refine zm ?_|refine zn ?_|refine zf ?_|refine zg ?_|refine zj ?_|refine zZ ?_|refine zh ?_|refine zi ?_|refine zo ?_|refine zp ?_|refine zq ?_|refine zr ?_|refine zs ?_)
  (refine r_call (R := ?_) rfl ?_ ?_; rotate_left 1; focus exact Vector_any [40, 46, 40, 46, 46, 41, 41] w)
  rintro v1 w1 ⟨hE1, hv⟩
  rcases hv with ⟨t, e, _, u, rfl, hO1⟩ | ⟨hno, _⟩
  rotate_left 1
  · exact (hno ⟨.nd .lf (.nd .lf .lf), rfl, by decide⟩).elim
  have et : t = .nd .lf (.nd .lf .lf) := text_inj (by rw [← e]; rfl)
  subst et
  replace hO1 : OwnI w1 w.heap.size 3 u [1, 0] := hO1
  obtain ⟨q1, c1, e1, _⟩ := hO1.ints.slice
  subst e1
  repeat' (first|refine za ?_|refine zA ?_|refine zB ?_|refine zb ?_|refine zc ?_|refine ze ?_|refine zd ?_|refine zC ?_|refine zD ?_|refine zE ?_|refine zF ?_|refine zG ?_|refine zH ?_|refine zI ?_|refine zJ ?_|refine zK ?_|refine zL ?_|refine zM ?_|refine zN ?_|refine zO ?_|refine zP ?_|refine zQ ?_|refine zR ?_|refine zS ?_|refine zU ?_|refine zV ?_|refine zW ?_|refine zt (fun hcd => ?_) (fun hcd => ?_)|refine zu (fun hcd => ?_) (fun hcd => ?_)|refine zX ?_|refine zY ?_|refine zv (fun hcd => ?_) (fun hcd => ?_)|refine zk ?_|refine zl ?_|refine zm ?_|refine zn ?_|refine zf ?_|refine zg ?_|refine zj ?_|refine zZ ?_|refine zh ?_|refine zi ?_|refine zo ?_|refine zp ?_|refine zq ?_|refine zr ?_|refine zs ?_)
  refine r_buildS2 (a1 := 0) (a2 := 0) el22 rfl rfl fun w2 hO2 hE2 hs2 => ?_
  repeat' (first|refine za ?_|refine zA ?_|refine zB ?_|refine zb ?_|refine zc ?_|refine ze ?_|refine zd ?_|refine zC ?_|refine zD ?_|refine zE ?_|refine zF ?_|refine zG ?_|refine zH ?_|refine zI ?_|refine zJ ?_|refine zK ?_|refine zL ?_|refine zM ?_|refine zN ?_|refine zO ?_|refine zP ?_|refine zQ ?_|refine zR ?_|refine zS ?_|refine zU ?_|refine zV ?_|refine zW ?_|refine zt (fun hcd => ?_) (fun hcd => ?_)|refine zu (fun hcd => ?_) (fun hcd => ?_)|refine zX ?_|refine zY ?_|refine zv (fun hcd => ?_) (fun hcd => ?_)|refine zk ?_|refine zl ?_|refine zm ?_|refine zn ?_|refine zf ?_|refine zg ?_|refine zj ?_|refine zZ ?_|refine zh ?_|refine zi ?_|refine zo ?_|refine zp ?_|refine zq ?_|refine zr ?_|refine zs ?_)
  (refine r_call (R := ?_) rfl ?_ ?_; rotate_left 1; focus exact Tree_any _ [0, 0] w2 hO2.ints (by decide))
  rintro v3 w3 ⟨hE3, hv⟩
  rcases hv with ⟨t, e, _, rfl⟩ | ⟨hno, _⟩
  rotate_left 1
  · exact (hno ⟨⟨.nd (.nd .lf .lf) .lf, rfl⟩, by decide⟩).elim
  have et : t = .nd (.nd .lf .lf) .lf := vec_inj (by rw [e]; rfl)
  subst et
  repeat' (first|refine za ?_|refine zA ?_|refine zB ?_|refine zb ?_|refine zc ?_|refine ze ?_|refine zd ?_|refine zC ?_|refine zD ?_|refine zE ?_|refine zF ?_|refine zG ?_|refine zH ?_|refine zI ?_|refine zJ ?_|refine zK ?_|refine zL ?_|refine zM ?_|refine zN ?_|refine zO ?_|refine zP ?_|refine zQ ?_|refine zR ?_|refine zS ?_|refine zU ?_|refine zV ?_|refine zW ?_|refine zt (fun hcd => ?_) (fun hcd => ?_)|refine zu (fun hcd => ?_) (fun hcd => ?_)|refine zX ?_|refine zY ?_|refine zv (fun hcd => ?_) (fun hcd => ?_)|refine zk ?_|refine zl ?_|refine zm ?_|refine zn ?_|refine zf ?_|refine zg ?_|refine zj ?_|refine zZ ?_|refine zh ?_|refine zi ?_|refine zo ?_|refine zp ?_|refine zq ?_|refine zr ?_|refine zs ?_)
  (refine r_call (R := ?_) rfl ?_ ?_; rotate_left 1; focus exact Pairs_any 3 w3)
  rintro v4 w4 ⟨hw4, hv⟩
  subst w4
  rcases hv with ⟨k, e, _, rfl⟩ | ⟨hno, _⟩
  rotate_left 1
  · exact (hno ⟨by decide, by decide⟩).elim
  have ek : k = 3 := by omega
  subst ek
  have ep : pairsF 3 = 13 := by decide +kernel
  rw [ep]
  repeat' (first|refine za ?_|refine zA ?_|refine zB ?_|refine zb ?_|refine zc ?_|refine ze ?_|refine zd ?_|refine zC ?_|refine zD ?_|refine zE ?_|refine zF ?_|refine zG ?_|refine zH ?_|refine zI ?_|refine zJ ?_|refine zK ?_|refine zL ?_|refine zM ?_|refine zN ?_|refine zO ?_|refine zP ?_|refine zQ ?_|refine zR ?_|refine zS ?_|refine zU ?_|refine zV ?_|refine zW ?_|refine zt (fun hcd => ?_) (fun hcd => ?_)|refine zu (fun hcd => ?_) (fun hcd => ?_)|refine zX ?_|refine zY ?_|refine zv (fun hcd => ?_) (fun hcd => ?_)|refine zk ?_|refine zl ?_|refine zm ?_|refine zn ?_|refine zf ?_|refine zg ?_|refine zj ?_|refine zZ ?_|refine zh ?_|refine zi ?_|refine zo ?_|refine zp ?_|refine zq ?_|refine zr ?_|refine zs ?_)
  (refine r_call (R := ?_) rfl ?_ ?_; rotate_left 1; focus exact Longest_any xA.text yA.text w3)
  rintro v5 w5 ⟨hE5, hv⟩
  rcases hv with ⟨u, rfl, hG⟩ | ⟨e, _, herr⟩
  rotate_left 1
  · exfalso
    have hx : IsT xA.text := ⟨xA, rfl, by decide⟩
    have hy : IsT yA.text := ⟨yA, rfl, by decide⟩
    rcases herr with (⟨_, h | h⟩ | ⟨_, x, y, ex, ey, _, _, hne⟩) | ⟨_, x, y, ex, ey, _, _, hne⟩
    · exact h hx
    · exact h hy
    · rw [← text_inj ex, ← text_inj ey] at hne; exact hne (by decide)
    · rw [← text_inj ex, ← text_inj ey] at hne; exact hne (by decide)
  obtain ⟨x, y, m, ex, ey, _, _, _, hm, rfl⟩ := hG
  rw [← text_inj ex, ← text_inj ey] at hm
  have em := isLp_unique hm lpA
  subst em
  repeat' (first|refine za ?_|refine zA ?_|refine zB ?_|refine zb ?_|refine zc ?_|refine ze ?_|refine zd ?_|refine zC ?_|refine zD ?_|refine zE ?_|refine zF ?_|refine zG ?_|refine zH ?_|refine zI ?_|refine zJ ?_|refine zK ?_|refine zL ?_|refine zM ?_|refine zN ?_|refine zO ?_|refine zP ?_|refine zQ ?_|refine zR ?_|refine zS ?_|refine zU ?_|refine zV ?_|refine zW ?_|refine zt (fun hcd => ?_) (fun hcd => ?_)|refine zu (fun hcd => ?_) (fun hcd => ?_)|refine zX ?_|refine zY ?_|refine zv (fun hcd => ?_) (fun hcd => ?_)|refine zk ?_|refine zl ?_|refine zm ?_|refine zn ?_|refine zf ?_|refine zg ?_|refine zj ?_|refine zZ ?_|refine zh ?_|refine zi ?_|refine zo ?_|refine zp ?_|refine zq ?_|refine zr ?_|refine zs ?_)
  (refine r_call (R := ?_) rfl ?_ ?_; rotate_left 1; focus exact Way_any xA.text yA.text w5)
  rintro v6 w6 ⟨hE6, hv⟩
  rcases hv with ⟨x, y, W, u, ex, ey, _, _, hW, rfl, hO6⟩ | ⟨e, _, herr⟩
  rotate_left 1
  · exfalso
    have hx : IsT xA.text := ⟨xA, rfl, by decide⟩
    have hy : IsT yA.text := ⟨yA, rfl, by decide⟩
    rcases herr with (⟨_, h | h⟩ | ⟨_, x, y, ex, ey, _, _, hne⟩) | ⟨_, x, y, ex, ey, _, _, hne⟩
    · exact h hx
    · exact h hy
    · rw [← text_inj ex, ← text_inj ey] at hne; exact hne (by decide)
    · rw [← text_inj ex] at hne; exact absurd hne (by decide)
  have hl := hW.len
  rw [← text_inj ex, ← text_inj ey, distA] at hl
  have hl3 : (txs W).length = 3 := by simp [hl]
  obtain ⟨q6, c6, e6, _⟩ := hO6.strs.slice
  rw [hl3] at e6
  subst e6
  repeat' (first|refine za ?_|refine zA ?_|refine zB ?_|refine zb ?_|refine zc ?_|refine ze ?_|refine zd ?_|refine zC ?_|refine zD ?_|refine zE ?_|refine zF ?_|refine zG ?_|refine zH ?_|refine zI ?_|refine zJ ?_|refine zK ?_|refine zL ?_|refine zM ?_|refine zN ?_|refine zO ?_|refine zP ?_|refine zQ ?_|refine zR ?_|refine zS ?_|refine zU ?_|refine zV ?_|refine zW ?_|refine zt (fun hcd => ?_) (fun hcd => ?_)|refine zu (fun hcd => ?_) (fun hcd => ?_)|refine zX ?_|refine zY ?_|refine zv (fun hcd => ?_) (fun hcd => ?_)|refine zk ?_|refine zl ?_|refine zm ?_|refine zn ?_|refine zf ?_|refine zg ?_|refine zj ?_|refine zZ ?_|refine zh ?_|refine zi ?_|refine zo ?_|refine zp ?_|refine zq ?_|refine zr ?_|refine zs ?_)
  refine r_buildS2 (a1 := 1) (a2 := 0) el22 rfl rfl fun w7 hO7 hE7 hs7 => ?_
  have hE27 := (hE2.trans hE3).trans (hE5.trans (hE6.trans hE7))
  repeat' (first|refine za ?_|refine zA ?_|refine zB ?_|refine zb ?_|refine zc ?_|refine ze ?_|refine zd ?_|refine zC ?_|refine zD ?_|refine zE ?_|refine zF ?_|refine zG ?_|refine zH ?_|refine zI ?_|refine zJ ?_|refine zK ?_|refine zL ?_|refine zM ?_|refine zN ?_|refine zO ?_|refine zP ?_|refine zQ ?_|refine zR ?_|refine zS ?_|refine zU ?_|refine zV ?_|refine zW ?_|refine zt (fun hcd => ?_) (fun hcd => ?_)|refine zu (fun hcd => ?_) (fun hcd => ?_)|refine zX ?_|refine zY ?_|refine zv (fun hcd => ?_) (fun hcd => ?_)|refine zk ?_|refine zl ?_|refine zm ?_|refine zn ?_|refine zf ?_|refine zg ?_|refine zj ?_|refine zZ ?_|refine zh ?_|refine zi ?_|refine zo ?_|refine zp ?_|refine zq ?_|refine zr ?_|refine zs ?_)
  (refine r_call (R := ?_) rfl ?_ ?_; rotate_left 1; focus exact ints_any _ _ [1, 0] [1, 0] w7 (hO1.ints.ext hE27) hO7.ints (by decide) (by decide))
  rintro v8 w8 ⟨rfl, hE8⟩
  rw [decide_eq_true (rfl : ([1, 0] : List Int) = [1, 0])]
  repeat' (first|refine za ?_|refine zA ?_|refine zB ?_|refine zb ?_|refine zc ?_|refine ze ?_|refine zd ?_|refine zC ?_|refine zD ?_|refine zE ?_|refine zF ?_|refine zG ?_|refine zH ?_|refine zI ?_|refine zJ ?_|refine zK ?_|refine zL ?_|refine zM ?_|refine zN ?_|refine zO ?_|refine zP ?_|refine zQ ?_|refine zR ?_|refine zS ?_|refine zU ?_|refine zV ?_|refine zW ?_|refine zt (fun hcd => ?_) (fun hcd => ?_)|refine zu (fun hcd => ?_) (fun hcd => ?_)|refine zX ?_|refine zY ?_|refine zv (fun hcd => ?_) (fun hcd => ?_)|refine zk ?_|refine zl ?_|refine zm ?_|refine zn ?_|refine zf ?_|refine zg ?_|refine zj ?_|refine zZ ?_|refine zh ?_|refine zi ?_|refine zo ?_|refine zp ?_|refine zq ?_|refine zr ?_|refine zs ?_)
  refine r_sneq_v (a := [40, 40, 46, 46, 41, 46, 41]) (b := [40, 40, 46, 46, 41, 46, 41]) (c := false) rfl rfl (by decide) ?_
  repeat' (first|refine za ?_|refine zA ?_|refine zB ?_|refine zb ?_|refine zc ?_|refine ze ?_|refine zd ?_|refine zC ?_|refine zD ?_|refine zE ?_|refine zF ?_|refine zG ?_|refine zH ?_|refine zI ?_|refine zJ ?_|refine zK ?_|refine zL ?_|refine zM ?_|refine zN ?_|refine zO ?_|refine zP ?_|refine zQ ?_|refine zR ?_|refine zS ?_|refine zU ?_|refine zV ?_|refine zW ?_|refine zt (fun hcd => ?_) (fun hcd => ?_)|refine zu (fun hcd => ?_) (fun hcd => ?_)|refine zX ?_|refine zY ?_|refine zv (fun hcd => ?_) (fun hcd => ?_)|refine zk ?_|refine zl ?_|refine zm ?_|refine zn ?_|refine zf ?_|refine zg ?_|refine zj ?_|refine zZ ?_|refine zh ?_|refine zi ?_|refine zo ?_|refine zp ?_|refine zq ?_|refine zr ?_|refine zs ?_)
  refine post1 (v := .bool true) rfl rfl ?_
  exact ⟨rfl, hE1.trans (hE27.trans hE8)⟩
end Go.Proofs.Ytkdakleckdkhiaa
