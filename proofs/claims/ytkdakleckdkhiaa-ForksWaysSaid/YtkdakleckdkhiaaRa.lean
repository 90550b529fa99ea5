/- forks: the reference's merged, sorted, All. -/
import Derived.Test.YtkdakleckdkhiaaAl
import Derived.Test.YtkdakleckdkhiaaPMg
import Derived.Sort.Walk0
namespace Go.Proofs.Ytkdakleckdkhiaa
namespace Gv
section
variable {P : Program} {st : Bool} {K : Env → World → Prop} {ρ : Env} {w : World} {d : Nat} {t t2 ty : TypeId} {pos : String} {aft : Array Edge} {gd : Option (Nat × Bool)} {x y : Operand} {a b : List UInt8}
theorem r_slss_t (hx : ev ρ x = str a) (hy : ev ρ y = str b) (hab : a < b) (h : K (up ρ d (.bool true)) w) : w1 P st ⟨some d, .binOp .lss t x y t2, ty, pos, aft, gd⟩ K ρ w :=
  r_slss hx hy (by rw [bytesLess_eq, decide_eq_true hab]; exact h)
theorem r_slss_f (hx : ev ρ x = str a) (hy : ev ρ y = str b) (hab : ¬ a < b) (h : K (up ρ d (.bool false)) w) : w1 P st ⟨some d, .binOp .lss t x y t2, ty, pos, aft, gd⟩ K ρ w :=
  r_slss hx hy (by rw [bytesLess_eq, decide_eq_false hab]; exact h)
end
end Gv
open Gv
set_option maxRecDepth 20000 in
set_option maxHeartbeats 8000000 in
theorem merged_any (v1 v2 : Value) (A B : List Str) (w : World) (h1 : Strs w v1 A) (h2 : Strs w v2 B) (hA : A.Pairwise (· ≤ ·)) (hB : B.Pairwise (· ≤ ·)) (hl : A.length ≤ 1000000) (hl2 : B.length ≤ 1000000) :
    Calls Try.prog 93 #[v1, v2] w (Ret fun v w' => ∃ X, OwnS w' w.heap.size v X ∧ X.Perm (A ++ B) ∧ X.Pairwise (· ≤ ·) ∧ Ext w w') := by
  obtain ⟨q1, c1, rfl, hc1⟩ := h1.slice
  obtain ⟨q2, c2, rfl, hc2⟩ := h2.slice
  refine calls_of_wc (args := [.slice q1 A.length c1, .slice q2 B.length c2]) Try.func93 rfl ?_ ?_; kernel_rfl
  repeat' (first|refine za ?_|refine zA ?_|refine zB ?_|refine zb ?_|refine zc ?_|refine ze ?_|refine zd ?_|refine zC ?_|refine zD ?_|refine zE ?_|refine zF ?_|refine zG ?_|refine zH ?_|refine zI ?_|refine zJ ?_|refine zK ?_|refine zL ?_|refine zM ?_|refine zN ?_|refine zO ?_|refine zP ?_|refine zQ ?_|refine zR ?_|refine zS ?_|refine zU ?_|refine zV ?_|refine zW ?_|refine zt (fun hcd => ?_) (fun hcd => ?_)|refine zu (fun hcd => ?_) (fun hcd => ?_)|refine zX ?_|refine zY ?_|refine zv (fun hcd => ?_) (fun hcd => ?_)|refine zk ?_|refine zl ?_|refine zm ?_|refine zn ?_|refine zf ?_|refine zg ?_|refine zj ?_|refine zZ ?_|refine zh ?_|refine zi ?_|refine zo ?_|refine zp ?_|refine zq ?_|refine zr ?_|refine zs ?_)
  refine wc_loop3 [0, 1] (fun (i j : Nat) (vo : Value) => [(6, .int .i64 i), (7, .int .i64 j), (5, vo)]) (fun i j vo wk => i ≤ A.length ∧ j ≤ B.length ∧ Ext w wk ∧ ∃ X, OwnS wk w.heap.size vo X ∧ MI A B i j X) (fun i j _ => A.length + B.length - i - j) 0 0 (.slice none 0 0) rfl ⟨rfl, rfl, rfl, trivial⟩ ⟨by omega, by omega, Ext.refl _, [], World.ownsRow_nil _ _ _ _, MI.nil A B⟩ ?_
  rintro i j vo wk x ⟨hi, hj, hE, X, hO, hM⟩
  have hXl := hM.len hi hj
  obtain ⟨qx, cx, rfl, _⟩ := hO.strs.slice
  have hEd := hE.trans (Ext.drew wk)
  have hOd : OwnS wk.drew w.heap.size (.slice qx X.length cx) X := OwnS.ext hO (Ext.drew wk)
  have goL : ∀ (v' : Value) (w' : World), i < A.length → (∀ y ∈ B.drop j, A.getD i [] ≤ y) → Gv.Own w' w.heap.size 9 v' (strs X ++ [str (A.getD i [])]) → wk.drew.grownBy w' (Value.slice qx X.length cx).ownBlock → Ext w w' ∧ ∃ X', OwnS w' w.heap.size v' X' ∧ MI A B (i + 1) j X' := fun v' w' hiA hc g1 g2 =>
    ⟨Ch.ext_new hEd (Ch.grown g2 fun g hg => (World.ownsRow.lt hOd g hg).1) (Nat.le_refl _), _, OwnS.of (by rw [strs, List.map_append]; exact g1), hM.stepL hA hiA hc⟩
  have goR : ∀ (v' : Value) (w' : World), j < B.length → (∀ y ∈ A.drop i, B.getD j [] ≤ y) → Gv.Own w' w.heap.size 9 v' (strs X ++ [str (B.getD j [])]) → wk.drew.grownBy w' (Value.slice qx X.length cx).ownBlock → Ext w w' ∧ ∃ X', OwnS w' w.heap.size v' X' ∧ MI A B i (j + 1) X' := fun v' w' hjB hc g1 g2 =>
    ⟨Ch.ext_new hEd (Ch.grown g2 fun g hg => (World.ownsRow.lt hOd g hg).1) (Nat.le_refl _), _, OwnS.of (by rw [strs, List.map_append]; exact g1), hM.stepR hB hjB hc⟩
  by_cases hiA : i < A.length
  · have hp1 := h1.isSome (by omega)
    have hr1 := strs_get0 (h1.ext hEd) hiA (j := (i : Int)) rfl
    have hsA := srt_drop hA hiA
    by_cases hjB : j < B.length
    · have hp2 := h2.isSome (by omega)
      have hr2 := strs_get0 (h2.ext hEd) hjB (j := (j : Int)) rfl
      have hsB := srt_drop hB hjB
      generalize A.getD i [] = a at *
      generalize B.getD j [] = b at *
      by_cases hab : a < b
      · repeat' (first|refine za ?_|refine zA ?_|refine zB ?_|refine zb ?_|refine zc ?_|refine ze ?_|refine zd ?_|refine zC ?_|refine zD ?_|refine zE ?_|refine zF ?_|refine zG ?_|refine zH ?_|refine zI ?_|refine zJ ?_|refine zK ?_|refine zL ?_|refine zM ?_|refine zN ?_|refine zO ?_|refine zP ?_|refine zQ ?_|refine zR ?_|refine zS ?_|refine zU ?_|refine zV ?_|refine zW ?_|refine zt (fun hcd => ?_) (fun hcd => ?_)|refine zu (fun hcd => ?_) (fun hcd => ?_)|refine zX ?_|refine zY ?_|refine zv (fun hcd => ?_) (fun hcd => ?_)|refine zk ?_|refine zl ?_|refine zm ?_|refine zn ?_|refine zf ?_|refine zg ?_|refine zj ?_|refine zZ ?_|refine zh ?_|refine zi ?_|refine zo ?_|refine zp ?_|refine zq ?_|refine zr ?_|refine zs ?_)
        refine wc_drawn 18 (by kernel_rfl) (by kernel_rfl) ?_
        repeat' (first|refine za ?_|refine zA ?_|refine zB ?_|refine zb ?_|refine zc ?_|refine ze ?_|refine zd ?_|refine zC ?_|refine zD ?_|refine zE ?_|refine zF ?_|refine zG ?_|refine zH ?_|refine zI ?_|refine zJ ?_|refine zK ?_|refine zL ?_|refine zM ?_|refine zN ?_|refine zO ?_|refine zP ?_|refine zQ ?_|refine zR ?_|refine zS ?_|refine zU ?_|refine zV ?_|refine zW ?_|refine zt (fun hcd => ?_) (fun hcd => ?_)|refine zu (fun hcd => ?_) (fun hcd => ?_)|refine zX ?_|refine zY ?_|refine zv (fun hcd => ?_) (fun hcd => ?_)|refine zk ?_|refine zl ?_|refine zm ?_|refine zn ?_|refine zf ?_|refine zg ?_|refine zj ?_|refine zZ ?_|refine zh ?_|refine zi ?_|refine zo ?_|refine zp ?_|refine zq ?_|refine zr ?_|refine zs ?_)
        refine r_slss_t (a := a) (b := b) rfl rfl hab ?_
        repeat' (first|refine za ?_|refine zA ?_|refine zB ?_|refine zb ?_|refine zc ?_|refine ze ?_|refine zd ?_|refine zC ?_|refine zD ?_|refine zE ?_|refine zF ?_|refine zG ?_|refine zH ?_|refine zI ?_|refine zJ ?_|refine zK ?_|refine zL ?_|refine zM ?_|refine zN ?_|refine zO ?_|refine zP ?_|refine zQ ?_|refine zR ?_|refine zS ?_|refine zU ?_|refine zV ?_|refine zW ?_|refine zt (fun hcd => ?_) (fun hcd => ?_)|refine zu (fun hcd => ?_) (fun hcd => ?_)|refine zX ?_|refine zY ?_|refine zv (fun hcd => ?_) (fun hcd => ?_)|refine zk ?_|refine zl ?_|refine zm ?_|refine zn ?_|refine zf ?_|refine zg ?_|refine zj ?_|refine zZ ?_|refine zh ?_|refine zi ?_|refine zo ?_|refine zp ?_|refine zq ?_|refine zr ?_|refine zs ?_)
        refine r_append1_v (u := str a) el32 rfl (by decide) hOd.own rfl rfl rfl (by simp; omega) hEd.size fun v' w' q g1 g2 g3 g4 => ?_
        obtain ⟨e1, e2⟩ := goL v' w' hiA (fun y hy => List.le_trans (List.le_of_lt hab) (hsB y hy)) g1 g2
        repeat' (first|refine za ?_|refine zA ?_|refine zB ?_|refine zb ?_|refine zc ?_|refine ze ?_|refine zd ?_|refine zC ?_|refine zD ?_|refine zE ?_|refine zF ?_|refine zG ?_|refine zH ?_|refine zI ?_|refine zJ ?_|refine zK ?_|refine zL ?_|refine zM ?_|refine zN ?_|refine zO ?_|refine zP ?_|refine zQ ?_|refine zR ?_|refine zS ?_|refine zU ?_|refine zV ?_|refine zW ?_|refine zt (fun hcd => ?_) (fun hcd => ?_)|refine zu (fun hcd => ?_) (fun hcd => ?_)|refine zX ?_|refine zY ?_|refine zv (fun hcd => ?_) (fun hcd => ?_)|refine zk ?_|refine zl ?_|refine zm ?_|refine zn ?_|refine zf ?_|refine zg ?_|refine zj ?_|refine zZ ?_|refine zh ?_|refine zi ?_|refine zo ?_|refine zp ?_|refine zq ?_|refine zr ?_|refine zs ?_)
        exact ⟨i + 1, j, v', ⟨rfl, rfl, rfl, trivial⟩, ⟨by omega, hj, e1, e2⟩, by omega⟩
      · repeat' (first|refine za ?_|refine zA ?_|refine zB ?_|refine zb ?_|refine zc ?_|refine ze ?_|refine zd ?_|refine zC ?_|refine zD ?_|refine zE ?_|refine zF ?_|refine zG ?_|refine zH ?_|refine zI ?_|refine zJ ?_|refine zK ?_|refine zL ?_|refine zM ?_|refine zN ?_|refine zO ?_|refine zP ?_|refine zQ ?_|refine zR ?_|refine zS ?_|refine zU ?_|refine zV ?_|refine zW ?_|refine zt (fun hcd => ?_) (fun hcd => ?_)|refine zu (fun hcd => ?_) (fun hcd => ?_)|refine zX ?_|refine zY ?_|refine zv (fun hcd => ?_) (fun hcd => ?_)|refine zk ?_|refine zl ?_|refine zm ?_|refine zn ?_|refine zf ?_|refine zg ?_|refine zj ?_|refine zZ ?_|refine zh ?_|refine zi ?_|refine zo ?_|refine zp ?_|refine zq ?_|refine zr ?_|refine zs ?_)
        refine wc_drawn 18 (by kernel_rfl) (by kernel_rfl) ?_
        repeat' (first|refine za ?_|refine zA ?_|refine zB ?_|refine zb ?_|refine zc ?_|refine ze ?_|refine zd ?_|refine zC ?_|refine zD ?_|refine zE ?_|refine zF ?_|refine zG ?_|refine zH ?_|refine zI ?_|refine zJ ?_|refine zK ?_|refine zL ?_|refine zM ?_|refine zN ?_|refine zO ?_|refine zP ?_|refine zQ ?_|refine zR ?_|refine zS ?_|refine zU ?_|refine zV ?_|refine zW ?_|refine zt (fun hcd => ?_) (fun hcd => ?_)|refine zu (fun hcd => ?_) (fun hcd => ?_)|refine zX ?_|refine zY ?_|refine zv (fun hcd => ?_) (fun hcd => ?_)|refine zk ?_|refine zl ?_|refine zm ?_|refine zn ?_|refine zf ?_|refine zg ?_|refine zj ?_|refine zZ ?_|refine zh ?_|refine zi ?_|refine zo ?_|refine zp ?_|refine zq ?_|refine zr ?_|refine zs ?_)
        refine r_slss_f (a := a) (b := b) rfl rfl hab ?_
        repeat' (first|refine za ?_|refine zA ?_|refine zB ?_|refine zb ?_|refine zc ?_|refine ze ?_|refine zd ?_|refine zC ?_|refine zD ?_|refine zE ?_|refine zF ?_|refine zG ?_|refine zH ?_|refine zI ?_|refine zJ ?_|refine zK ?_|refine zL ?_|refine zM ?_|refine zN ?_|refine zO ?_|refine zP ?_|refine zQ ?_|refine zR ?_|refine zS ?_|refine zU ?_|refine zV ?_|refine zW ?_|refine zt (fun hcd => ?_) (fun hcd => ?_)|refine zu (fun hcd => ?_) (fun hcd => ?_)|refine zX ?_|refine zY ?_|refine zv (fun hcd => ?_) (fun hcd => ?_)|refine zk ?_|refine zl ?_|refine zm ?_|refine zn ?_|refine zf ?_|refine zg ?_|refine zj ?_|refine zZ ?_|refine zh ?_|refine zi ?_|refine zo ?_|refine zp ?_|refine zq ?_|refine zr ?_|refine zs ?_)
        refine r_append1_v (u := str b) el32 rfl (by decide) hOd.own rfl rfl rfl (by simp; omega) hEd.size fun v' w' q g1 g2 g3 g4 => ?_
        obtain ⟨e1, e2⟩ := goR v' w' hjB (fun y hy => List.le_trans (List.not_lt.1 hab) (hsA y hy)) g1 g2
        repeat' (first|refine za ?_|refine zA ?_|refine zB ?_|refine zb ?_|refine zc ?_|refine ze ?_|refine zd ?_|refine zC ?_|refine zD ?_|refine zE ?_|refine zF ?_|refine zG ?_|refine zH ?_|refine zI ?_|refine zJ ?_|refine zK ?_|refine zL ?_|refine zM ?_|refine zN ?_|refine zO ?_|refine zP ?_|refine zQ ?_|refine zR ?_|refine zS ?_|refine zU ?_|refine zV ?_|refine zW ?_|refine zt (fun hcd => ?_) (fun hcd => ?_)|refine zu (fun hcd => ?_) (fun hcd => ?_)|refine zX ?_|refine zY ?_|refine zv (fun hcd => ?_) (fun hcd => ?_)|refine zk ?_|refine zl ?_|refine zm ?_|refine zn ?_|refine zf ?_|refine zg ?_|refine zj ?_|refine zZ ?_|refine zh ?_|refine zi ?_|refine zo ?_|refine zp ?_|refine zq ?_|refine zr ?_|refine zs ?_)
        exact ⟨i, j + 1, v', ⟨rfl, rfl, rfl, trivial⟩, ⟨hi, by omega, e1, e2⟩, by omega⟩
    · obtain rfl : j = B.length := by omega
      generalize A.getD i [] = a at *
      repeat' (first|refine za ?_|refine zA ?_|refine zB ?_|refine zb ?_|refine zc ?_|refine ze ?_|refine zd ?_|refine zC ?_|refine zD ?_|refine zE ?_|refine zF ?_|refine zG ?_|refine zH ?_|refine zI ?_|refine zJ ?_|refine zK ?_|refine zL ?_|refine zM ?_|refine zN ?_|refine zO ?_|refine zP ?_|refine zQ ?_|refine zR ?_|refine zS ?_|refine zU ?_|refine zV ?_|refine zW ?_|refine zt (fun hcd => ?_) (fun hcd => ?_)|refine zu (fun hcd => ?_) (fun hcd => ?_)|refine zX ?_|refine zY ?_|refine zv (fun hcd => ?_) (fun hcd => ?_)|refine zk ?_|refine zl ?_|refine zm ?_|refine zn ?_|refine zf ?_|refine zg ?_|refine zj ?_|refine zZ ?_|refine zh ?_|refine zi ?_|refine zo ?_|refine zp ?_|refine zq ?_|refine zr ?_|refine zs ?_)
      refine wc_drawn 18 (by kernel_rfl) (by kernel_rfl) ?_
      repeat' (first|refine za ?_|refine zA ?_|refine zB ?_|refine zb ?_|refine zc ?_|refine ze ?_|refine zd ?_|refine zC ?_|refine zD ?_|refine zE ?_|refine zF ?_|refine zG ?_|refine zH ?_|refine zI ?_|refine zJ ?_|refine zK ?_|refine zL ?_|refine zM ?_|refine zN ?_|refine zO ?_|refine zP ?_|refine zQ ?_|refine zR ?_|refine zS ?_|refine zU ?_|refine zV ?_|refine zW ?_|refine zt (fun hcd => ?_) (fun hcd => ?_)|refine zu (fun hcd => ?_) (fun hcd => ?_)|refine zX ?_|refine zY ?_|refine zv (fun hcd => ?_) (fun hcd => ?_)|refine zk ?_|refine zl ?_|refine zm ?_|refine zn ?_|refine zf ?_|refine zg ?_|refine zj ?_|refine zZ ?_|refine zh ?_|refine zi ?_|refine zo ?_|refine zp ?_|refine zq ?_|refine zr ?_|refine zs ?_)
      refine r_append1_v (u := str a) el32 rfl (by decide) hOd.own rfl rfl rfl (by simp; omega) hEd.size fun v' w' q g1 g2 g3 g4 => ?_
      obtain ⟨e1, e2⟩ := goL v' w' hiA (by simp) g1 g2
      repeat' (first|refine za ?_|refine zA ?_|refine zB ?_|refine zb ?_|refine zc ?_|refine ze ?_|refine zd ?_|refine zC ?_|refine zD ?_|refine zE ?_|refine zF ?_|refine zG ?_|refine zH ?_|refine zI ?_|refine zJ ?_|refine zK ?_|refine zL ?_|refine zM ?_|refine zN ?_|refine zO ?_|refine zP ?_|refine zQ ?_|refine zR ?_|refine zS ?_|refine zU ?_|refine zV ?_|refine zW ?_|refine zt (fun hcd => ?_) (fun hcd => ?_)|refine zu (fun hcd => ?_) (fun hcd => ?_)|refine zX ?_|refine zY ?_|refine zv (fun hcd => ?_) (fun hcd => ?_)|refine zk ?_|refine zl ?_|refine zm ?_|refine zn ?_|refine zf ?_|refine zg ?_|refine zj ?_|refine zZ ?_|refine zh ?_|refine zi ?_|refine zo ?_|refine zp ?_|refine zq ?_|refine zr ?_|refine zs ?_)
      exact ⟨i + 1, B.length, v', ⟨rfl, rfl, rfl, trivial⟩, ⟨by omega, hj, e1, e2⟩, by omega⟩
  · obtain rfl : i = A.length := by omega
    by_cases hjB : j < B.length
    · have hp2 := h2.isSome (by omega)
      have hr2 := strs_get0 (h2.ext hEd) hjB (j := (j : Int)) rfl
      generalize B.getD j [] = b at *
      repeat' (first|refine za ?_|refine zA ?_|refine zB ?_|refine zb ?_|refine zc ?_|refine ze ?_|refine zd ?_|refine zC ?_|refine zD ?_|refine zE ?_|refine zF ?_|refine zG ?_|refine zH ?_|refine zI ?_|refine zJ ?_|refine zK ?_|refine zL ?_|refine zM ?_|refine zN ?_|refine zO ?_|refine zP ?_|refine zQ ?_|refine zR ?_|refine zS ?_|refine zU ?_|refine zV ?_|refine zW ?_|refine zt (fun hcd => ?_) (fun hcd => ?_)|refine zu (fun hcd => ?_) (fun hcd => ?_)|refine zX ?_|refine zY ?_|refine zv (fun hcd => ?_) (fun hcd => ?_)|refine zk ?_|refine zl ?_|refine zm ?_|refine zn ?_|refine zf ?_|refine zg ?_|refine zj ?_|refine zZ ?_|refine zh ?_|refine zi ?_|refine zo ?_|refine zp ?_|refine zq ?_|refine zr ?_|refine zs ?_)
      refine wc_drawn 18 (by kernel_rfl) (by kernel_rfl) ?_
      repeat' (first|refine za ?_|refine zA ?_|refine zB ?_|refine zb ?_|refine zc ?_|refine ze ?_|refine zd ?_|refine zC ?_|refine zD ?_|refine zE ?_|refine zF ?_|refine zG ?_|refine zH ?_|refine zI ?_|refine zJ ?_|refine zK ?_|refine zL ?_|refine zM ?_|refine zN ?_|refine zO ?_|refine zP ?_|refine zQ ?_|refine zR ?_|refine zS ?_|refine zU ?_|refine zV ?_|refine zW ?_|refine zt (fun hcd => ?_) (fun hcd => ?_)|refine zu (fun hcd => ?_) (fun hcd => ?_)|refine zX ?_|refine zY ?_|refine zv (fun hcd => ?_) (fun hcd => ?_)|refine zk ?_|refine zl ?_|refine zm ?_|refine zn ?_|refine zf ?_|refine zg ?_|refine zj ?_|refine zZ ?_|refine zh ?_|refine zi ?_|refine zo ?_|refine zp ?_|refine zq ?_|refine zr ?_|refine zs ?_)
      refine r_append1_v (u := str b) el32 rfl (by decide) hOd.own rfl rfl rfl (by simp; omega) hEd.size fun v' w' q g1 g2 g3 g4 => ?_
      obtain ⟨e1, e2⟩ := goR v' w' hjB (by simp) g1 g2
      repeat' (first|refine za ?_|refine zA ?_|refine zB ?_|refine zb ?_|refine zc ?_|refine ze ?_|refine zd ?_|refine zC ?_|refine zD ?_|refine zE ?_|refine zF ?_|refine zG ?_|refine zH ?_|refine zI ?_|refine zJ ?_|refine zK ?_|refine zL ?_|refine zM ?_|refine zN ?_|refine zO ?_|refine zP ?_|refine zQ ?_|refine zR ?_|refine zS ?_|refine zU ?_|refine zV ?_|refine zW ?_|refine zt (fun hcd => ?_) (fun hcd => ?_)|refine zu (fun hcd => ?_) (fun hcd => ?_)|refine zX ?_|refine zY ?_|refine zv (fun hcd => ?_) (fun hcd => ?_)|refine zk ?_|refine zl ?_|refine zm ?_|refine zn ?_|refine zf ?_|refine zg ?_|refine zj ?_|refine zZ ?_|refine zh ?_|refine zi ?_|refine zo ?_|refine zp ?_|refine zq ?_|refine zr ?_|refine zs ?_)
      exact ⟨A.length, j + 1, v', ⟨rfl, rfl, rfl, trivial⟩, ⟨hi, by omega, e1, e2⟩, by omega⟩
    · obtain rfl : j = B.length := by omega
      have hf := hM.fin rfl rfl
      repeat' (first|refine za ?_|refine zA ?_|refine zB ?_|refine zb ?_|refine zc ?_|refine ze ?_|refine zd ?_|refine zC ?_|refine zD ?_|refine zE ?_|refine zF ?_|refine zG ?_|refine zH ?_|refine zI ?_|refine zJ ?_|refine zK ?_|refine zL ?_|refine zM ?_|refine zN ?_|refine zO ?_|refine zP ?_|refine zQ ?_|refine zR ?_|refine zS ?_|refine zU ?_|refine zV ?_|refine zW ?_|refine zt (fun hcd => ?_) (fun hcd => ?_)|refine zu (fun hcd => ?_) (fun hcd => ?_)|refine zX ?_|refine zY ?_|refine zv (fun hcd => ?_) (fun hcd => ?_)|refine zk ?_|refine zl ?_|refine zm ?_|refine zn ?_|refine zf ?_|refine zg ?_|refine zj ?_|refine zZ ?_|refine zh ?_|refine zi ?_|refine zo ?_|refine zp ?_|refine zq ?_|refine zr ?_|refine zs ?_)
      refine post1 (v := .slice qx X.length cx) rfl rfl ?_
      exact ⟨X, hO, hf.1, hf.2, hE⟩
theorem strs_part {w : World} {q : Option Addr} {c l h' : Nat} {L : List Str} (h : Strs w (.slice q L.length c) L) (h1 : l ≤ h') (h2 : h' ≤ L.length) :
    Strs w (.slice (if c = l then q else q.map fun a => a.add (l * 1)) (h' - l) (c - l)) ((L.drop l).take (h' - l)) := by
  have := Gv.Sl.part (sz := 1) h h1 h2
  have hlen : ((L.drop l).take (h' - l)).length = h' - l := by simp; omega
  unfold Strs
  rw [hlen]
  simpa [strs, List.map_take, List.map_drop] using this
set_option maxRecDepth 20000 in
set_option maxHeartbeats 8000000 in
theorem sorted_any : ∀ (N : Nat) (v : Value) (L : List Str) (w : World), L.length ≤ N → L.length ≤ 1000000 → Strs w v L →
    Calls Try.prog 73 #[v] w (Ret fun v' w' => Strs w' v' (sortP L) ∧ (∀ g, v'.ownBlock = some g → v.ownBlock = some g ∨ w.heap.size ≤ g ∧ g < w'.heap.size) ∧ Ext w w') := by
  intro N
  induction N with
  | zero =>
    intro v L w hN _ h
    obtain ⟨q, c, rfl, hc⟩ := h.slice
    refine calls_of_wc (args := [.slice q L.length c]) Try.func73 rfl ?_ ?_; kernel_rfl
    repeat' (first|refine za ?_|refine zA ?_|refine zB ?_|refine zb ?_|refine zc ?_|refine ze ?_|refine zd ?_|refine zC ?_|refine zD ?_|refine zE ?_|refine zF ?_|refine zG ?_|refine zH ?_|refine zI ?_|refine zJ ?_|refine zK ?_|refine zL ?_|refine zM ?_|refine zN ?_|refine zO ?_|refine zP ?_|refine zQ ?_|refine zR ?_|refine zS ?_|refine zU ?_|refine zV ?_|refine zW ?_|refine zt (fun hcd => ?_) (fun hcd => ?_)|refine zu (fun hcd => ?_) (fun hcd => ?_)|refine zX ?_|refine zY ?_|refine zv (fun hcd => ?_) (fun hcd => ?_)|refine zk ?_|refine zl ?_|refine zm ?_|refine zn ?_|refine zf ?_|refine zg ?_|refine zj ?_|refine zZ ?_|refine zh ?_|refine zi ?_|refine zo ?_|refine zp ?_|refine zq ?_|refine zr ?_|refine zs ?_)
    refine post1 (v := .slice q L.length c) rfl rfl ?_
    rw [← sortP_short (by omega)]
    exact ⟨h, fun g hg => .inl hg, Ext.refl _⟩
  | succ N ih =>
    intro v L w hN hb h
    obtain ⟨q, c, rfl, hc⟩ := h.slice
    refine calls_of_wc (args := [.slice q L.length c]) Try.func73 rfl ?_ ?_; kernel_rfl
    by_cases h2 : L.length < 2
    · repeat' (first|refine za ?_|refine zA ?_|refine zB ?_|refine zb ?_|refine zc ?_|refine ze ?_|refine zd ?_|refine zC ?_|refine zD ?_|refine zE ?_|refine zF ?_|refine zG ?_|refine zH ?_|refine zI ?_|refine zJ ?_|refine zK ?_|refine zL ?_|refine zM ?_|refine zN ?_|refine zO ?_|refine zP ?_|refine zQ ?_|refine zR ?_|refine zS ?_|refine zU ?_|refine zV ?_|refine zW ?_|refine zt (fun hcd => ?_) (fun hcd => ?_)|refine zu (fun hcd => ?_) (fun hcd => ?_)|refine zX ?_|refine zY ?_|refine zv (fun hcd => ?_) (fun hcd => ?_)|refine zk ?_|refine zl ?_|refine zm ?_|refine zn ?_|refine zf ?_|refine zg ?_|refine zj ?_|refine zZ ?_|refine zh ?_|refine zi ?_|refine zo ?_|refine zp ?_|refine zq ?_|refine zr ?_|refine zs ?_)
      refine post1 (v := .slice q L.length c) rfl rfl ?_
      rw [← sortP_short (by omega)]
      exact ⟨h, fun g hg => .inl hg, Ext.refl _⟩
    have hd : (L.length : Int) / 2 = ((L.length / 2 : Nat) : Int) := rfl
    obtain ⟨n, hn⟩ : ∃ n, n = L.length / 2 := ⟨_, rfl⟩
    rw [← hn] at hd
    have hn1 : 1 ≤ n ∧ n < L.length := by omega
    have hS := h.ext (Ext.drew w)
    have p1 := strs_part hS (l := 0) (h' := n) (by omega) (by omega)
    have p2 := strs_part hS (l := n) (h' := L.length) (by omega) (by omega)
    rw [List.drop_zero, Nat.sub_zero] at p1
    rw [List.take_of_length_le (by simp)] at p2
    have l1 : (L.take n).length = n := by simp; omega
    have l2 : (L.drop n).length = L.length - n := by simp
    repeat' (first|refine za ?_|refine zA ?_|refine zB ?_|refine zb ?_|refine zc ?_|refine ze ?_|refine zd ?_|refine zC ?_|refine zD ?_|refine zE ?_|refine zF ?_|refine zG ?_|refine zH ?_|refine zI ?_|refine zJ ?_|refine zK ?_|refine zL ?_|refine zM ?_|refine zN ?_|refine zO ?_|refine zP ?_|refine zQ ?_|refine zR ?_|refine zS ?_|refine zU ?_|refine zV ?_|refine zW ?_|refine zt (fun hcd => ?_) (fun hcd => ?_)|refine zu (fun hcd => ?_) (fun hcd => ?_)|refine zX ?_|refine zY ?_|refine zv (fun hcd => ?_) (fun hcd => ?_)|refine zk ?_|refine zl ?_|refine zm ?_|refine zn ?_|refine zf ?_|refine zg ?_|refine zj ?_|refine zZ ?_|refine zh ?_|refine zi ?_|refine zo ?_|refine zp ?_|refine zq ?_|refine zr ?_|refine zs ?_)
    refine wc_heldB (fun w' => Ext w.drew w') (.take 0 (.take 1 (.take 2 (.take 3 (.take 4 (.take 6 (.take 7 (.take 8 (.take 9 (.take 10 (.one 5 (.one 11 (.one 12 (.one 13 .done)))))))))))))) (by kernel_rfl) (by kernel_rfl) (Ext.refl _) ?_
    refine whB_take (v := .slice q L.length c) rfl rfl (fun w' hw' => rv_move_v rfl) ?_
    refine whB_take (v := .slice q L.length c) rfl rfl (fun w' hw' => rv_move_v rfl) ?_
    refine whB_take (v := .int .i64 L.length) rfl rfl (fun w' hw' => rv_of rfl (fun _ h => r_len rfl rfl h) fun _ _ h => val_of h) ?_
    refine whB_take (v := .int .i64 (n : Int)) rfl rfl (fun w' hw' => rv_of rfl (fun _ h => r_quo_in rfl rfl ⟨by omega, by omega⟩ (by omega) (by rw [hd]; exact h)) fun _ _ h => val_of h) ?_
    refine whB_take (v := .slice (if c = 0 then q else q.map fun a => a.add (0 * 1)) (n - 0) (c - 0)) rfl rfl (fun w' hw' => rv_of rfl (fun _ h => r_slice ss32 rfl rfl ⟨_, rfl⟩ (by omega) (by omega) h) fun _ _ h => val_of h) ?_
    refine whB_take (v := .slice q L.length c) rfl rfl (fun w' hw' => rv_move_v rfl) ?_
    refine whB_take (v := .slice q L.length c) rfl rfl (fun w' hw' => rv_move_v rfl) ?_
    refine whB_take (v := .int .i64 L.length) rfl rfl (fun w' hw' => rv_of rfl (fun _ h => r_len rfl rfl h) fun _ _ h => val_of h) ?_
    refine whB_take (v := .int .i64 (n : Int)) rfl rfl (fun w' hw' => rv_of rfl (fun _ h => r_quo_in rfl rfl ⟨by omega, by omega⟩ (by omega) (by rw [hd]; exact h)) fun _ _ h => val_of h) ?_
    refine whB_take (v := .slice (if c = n then q else q.map fun a => a.add (n * 1)) (L.length - n) (c - n)) rfl rfl (fun w' hw' => rv_of rfl (fun _ h => r_slice ss32 rfl ⟨_, rfl⟩ rfl (by omega) (by omega) h) fun _ _ h => val_of h) ?_
    refine whB_one rfl rfl ?_
    (refine r_call (R := ?_) rfl ?_ ?_; rotate_left 1; focus exact ih _ (L.take n) _ (by omega) (by omega) p1)
    rintro v1 w1 ⟨hS1, _, hE1⟩
    refine ⟨hE1, ?_⟩
    refine whB_one rfl rfl ?_
    (refine r_call (R := ?_) rfl ?_ ?_; rotate_left 1; focus exact ih _ (L.drop n) _ (by omega) (by omega) (p2.ext hE1))
    rintro v2 w2 ⟨hS2, _, hE2⟩
    have hE02 := hE1.trans hE2
    refine ⟨hE02, ?_⟩
    refine whB_one rfl rfl ?_
    (refine r_call (R := ?_) rfl ?_ ?_; rotate_left 1; focus exact merged_any v1 v2 _ _ w2 (hS1.ext hE2) hS2 (sortP_sorted _) (sortP_sorted _) (by rw [sortP_len]; omega) (by rw [sortP_len]; omega))
    rintro v3 w3 ⟨X, hO3, hXp, hXs, hE3⟩
    have hX := sortP_halves hXp hXs
    have hE03 := hE02.trans hE3
    refine ⟨hE03, ?_⟩
    refine whB_one rfl rfl ?_
    refine r_assign_v (v := v3) rfl ?_
    refine ⟨hE03, whB_done ?_⟩
    repeat' (first|refine za ?_|refine zA ?_|refine zB ?_|refine zb ?_|refine zc ?_|refine ze ?_|refine zd ?_|refine zC ?_|refine zD ?_|refine zE ?_|refine zF ?_|refine zG ?_|refine zH ?_|refine zI ?_|refine zJ ?_|refine zK ?_|refine zL ?_|refine zM ?_|refine zN ?_|refine zO ?_|refine zP ?_|refine zQ ?_|refine zR ?_|refine zS ?_|refine zU ?_|refine zV ?_|refine zW ?_|refine zt (fun hcd => ?_) (fun hcd => ?_)|refine zu (fun hcd => ?_) (fun hcd => ?_)|refine zX ?_|refine zY ?_|refine zv (fun hcd => ?_) (fun hcd => ?_)|refine zk ?_|refine zl ?_|refine zm ?_|refine zn ?_|refine zf ?_|refine zg ?_|refine zj ?_|refine zZ ?_|refine zh ?_|refine zi ?_|refine zo ?_|refine zp ?_|refine zq ?_|refine zr ?_|refine zs ?_)
    refine post1 (v := v3) rfl rfl ?_
    rw [← hX]
    refine ⟨hO3.strs, fun g hg => .inr ?_, (Ext.drew w).trans hE03⟩
    have := World.ownsRow.lt hO3 g hg
    have := ((Ext.drew w).trans hE02).size
    omega
end Go.Proofs.Ytkdakleckdkhiaa
