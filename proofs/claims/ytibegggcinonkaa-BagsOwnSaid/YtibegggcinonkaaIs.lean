/- bags: isSet. -/
import Derived.Test.YtibegggcinonkaaD
namespace Go.Proofs.Ytibegggcinonkaa
open Gv
/-- A non-empty set of vertices, in ascending order. -/
def IsS (n : Int) (S : List Int) : Prop := 0 < S.length ∧ ∀ i, i < S.length → (0 ≤ S.getD i 0 ∧ S.getD i 0 < n) ∧ (0 < i → S.getD (i - 1) 0 < S.getD i 0)
instance (n : Int) (S : List Int) : Decidable (IsS n S) := by unfold IsS; infer_instance
set_option maxRecDepth 20000 in
set_option maxHeartbeats 4000000 in
theorem isSet_any (n : Int) (v : Value) (vs : Value) (S : List Int) (w : World) (hS : Ints w vs S) (hn : 1 ≤ n ∧ n ≤ 16) (hsl : S.length ≤ 1000) :
    Calls Try.prog 49 #[.agg #[.int .i64 n, v], vs] w (Ret fun v' w' => v' = .bool (decide (IsS n S)) ∧ Ext w w') := by
  obtain ⟨qs, cs, rfl, hqs⟩ := hS.slice
  refine calls_of_wc (args := [.agg #[.int .i64 n, v], .slice qs S.length cs]) Try.func49 rfl ?_ ?_; kernel_rfl
  repeat' (first|refine za ?_|refine zA ?_|refine zB ?_|refine zb ?_|refine zc ?_|refine ze ?_|refine zd ?_|refine zC ?_|refine zD ?_|refine zE ?_|refine zF ?_|refine zG ?_|refine zH ?_|refine zI ?_|refine zJ ?_|refine zK ?_|refine zL ?_|refine zM ?_|refine zN ?_|refine zO ?_|refine zP ?_|refine zQ ?_|refine zR ?_|refine zS ?_|refine zU ?_|refine zV ?_|refine zW ?_|refine zt (fun hcd => ?_) (fun hcd => ?_)|refine zu (fun hcd => ?_) (fun hcd => ?_)|refine zX ?_|refine zY ?_|refine zv (fun hcd => ?_) (fun hcd => ?_)|refine zk ?_|refine zl ?_|refine zm ?_|refine zn ?_|refine zf ?_|refine zg ?_|refine zj ?_|refine zZ ?_|refine zh ?_|refine zi ?_|refine zo ?_|refine zp ?_|refine zq ?_|refine zr ?_|refine zs ?_)
  refine r_boxN (cells := [.int .i64 n, v]) rfl fun w1 hb1 hE1 hs1 => ?_
  obtain ⟨b1, eb1⟩ : ∃ b, b = w.heap.size := ⟨_, rfl⟩
  rw [← eb1] at hb1 ⊢
  have hS1 := hS.ext hE1
  have hrn := hb1.rd (k := 0) (v := .int .i64 n) rfl
  repeat' (first|refine za ?_|refine zA ?_|refine zB ?_|refine zb ?_|refine zc ?_|refine ze ?_|refine zd ?_|refine zC ?_|refine zD ?_|refine zE ?_|refine zF ?_|refine zG ?_|refine zH ?_|refine zI ?_|refine zJ ?_|refine zK ?_|refine zL ?_|refine zM ?_|refine zN ?_|refine zO ?_|refine zP ?_|refine zQ ?_|refine zR ?_|refine zS ?_|refine zU ?_|refine zV ?_|refine zW ?_|refine zt (fun hcd => ?_) (fun hcd => ?_)|refine zu (fun hcd => ?_) (fun hcd => ?_)|refine zX ?_|refine zY ?_|refine zv (fun hcd => ?_) (fun hcd => ?_)|refine zk ?_|refine zl ?_|refine zm ?_|refine zn ?_|refine zf ?_|refine zg ?_|refine zj ?_|refine zZ ?_|refine zh ?_|refine zi ?_|refine zo ?_|refine zp ?_|refine zq ?_|refine zr ?_|refine zs ?_)
  refine wc_loop [1, 2, 7, 8] (fun (i : Nat) => [(9, .int .i64 i)]) (fun i wk => i ≤ S.length ∧ wk = w1 ∧ ∀ j, j < i → (0 ≤ S.getD j 0 ∧ S.getD j 0 < n) ∧ (0 < j → S.getD (j - 1) 0 < S.getD j 0)) (fun i => S.length - i) 0 rfl ⟨rfl, trivial⟩ ⟨by omega, rfl, fun j hj => by omega⟩ ?_
  rintro i wk x ⟨hi, rfl, hall⟩
  by_cases hin : i < S.length
  · have hr := hS1.rd (i := i) hin
    have hps := hS1.isSome (by omega)
    have bad : ¬ ((0 ≤ S.getD i 0 ∧ S.getD i 0 < n) ∧ (0 < i → S.getD (i - 1) 0 < S.getD i 0)) → decide (IsS n S) = false := fun hh => decide_eq_false fun hs => hh (hs.2 i hin)
    repeat' (first|refine za ?_|refine zA ?_|refine zB ?_|refine zb ?_|refine zc ?_|refine ze ?_|refine zd ?_|refine zC ?_|refine zD ?_|refine zE ?_|refine zF ?_|refine zG ?_|refine zH ?_|refine zI ?_|refine zJ ?_|refine zK ?_|refine zL ?_|refine zM ?_|refine zN ?_|refine zO ?_|refine zP ?_|refine zQ ?_|refine zR ?_|refine zS ?_|refine zU ?_|refine zV ?_|refine zW ?_|refine zt (fun hcd => ?_) (fun hcd => ?_)|refine zu (fun hcd => ?_) (fun hcd => ?_)|refine zX ?_|refine zY ?_|refine zv (fun hcd => ?_) (fun hcd => ?_)|refine zk ?_|refine zl ?_|refine zm ?_|refine zn ?_|refine zf ?_|refine zg ?_|refine zj ?_|refine zZ ?_|refine zh ?_|refine zi ?_|refine zo ?_|refine zp ?_|refine zq ?_|refine zr ?_|refine zs ?_)
    refine r_fa (off := 0) rfl rfl ?_
    repeat' (first|refine za ?_|refine zA ?_|refine zB ?_|refine zb ?_|refine zc ?_|refine ze ?_|refine zd ?_|refine zC ?_|refine zD ?_|refine zE ?_|refine zF ?_|refine zG ?_|refine zH ?_|refine zI ?_|refine zJ ?_|refine zK ?_|refine zL ?_|refine zM ?_|refine zN ?_|refine zO ?_|refine zP ?_|refine zQ ?_|refine zR ?_|refine zS ?_|refine zU ?_|refine zV ?_|refine zW ?_|refine zt (fun hcd => ?_) (fun hcd => ?_)|refine zu (fun hcd => ?_) (fun hcd => ?_)|refine zX ?_|refine zY ?_|refine zv (fun hcd => ?_) (fun hcd => ?_)|refine zk ?_|refine zl ?_|refine zm ?_|refine zn ?_|refine zf ?_|refine zg ?_|refine zj ?_|refine zZ ?_|refine zh ?_|refine zi ?_|refine zo ?_|refine zp ?_|refine zq ?_|refine zr ?_|refine zs ?_)
    (refine r_call_q (v := ?_) rfl ?_ ?_; rotate_left 1; focus exact within_any _ _ _ _)
    by_cases c1 : 0 ≤ S.getD i 0 ∧ S.getD i 0 ≤ n - 1
    rotate_left 1
    · rw [decide_eq_false c1]
      repeat' (first|refine za ?_|refine zA ?_|refine zB ?_|refine zb ?_|refine zc ?_|refine ze ?_|refine zd ?_|refine zC ?_|refine zD ?_|refine zE ?_|refine zF ?_|refine zG ?_|refine zH ?_|refine zI ?_|refine zJ ?_|refine zK ?_|refine zL ?_|refine zM ?_|refine zN ?_|refine zO ?_|refine zP ?_|refine zQ ?_|refine zR ?_|refine zS ?_|refine zU ?_|refine zV ?_|refine zW ?_|refine zt (fun hcd => ?_) (fun hcd => ?_)|refine zu (fun hcd => ?_) (fun hcd => ?_)|refine zX ?_|refine zY ?_|refine zv (fun hcd => ?_) (fun hcd => ?_)|refine zk ?_|refine zl ?_|refine zm ?_|refine zn ?_|refine zf ?_|refine zg ?_|refine zj ?_|refine zZ ?_|refine zh ?_|refine zi ?_|refine zo ?_|refine zp ?_|refine zq ?_|refine zr ?_|refine zs ?_)
      refine post1 (v := .bool false) rfl rfl ?_
      exact ⟨by rw [bad fun hh => c1 ⟨by omega, by omega⟩], hE1⟩
    rw [decide_eq_true c1]
    by_cases c0 : 0 < i
    · have e1 : ((i : Int) - 1).toNat = i - 1 := by omega
      have hr2 := hS1.rd (i := i - 1) (by omega)
      rw [← e1] at hr2
      by_cases c2 : S.getD (i - 1) 0 < S.getD i 0
      · rw [← e1] at c2
        repeat' (first|refine za ?_|refine zA ?_|refine zB ?_|refine zb ?_|refine zc ?_|refine ze ?_|refine zd ?_|refine zC ?_|refine zD ?_|refine zE ?_|refine zF ?_|refine zG ?_|refine zH ?_|refine zI ?_|refine zJ ?_|refine zK ?_|refine zL ?_|refine zM ?_|refine zN ?_|refine zO ?_|refine zP ?_|refine zQ ?_|refine zR ?_|refine zS ?_|refine zU ?_|refine zV ?_|refine zW ?_|refine zt (fun hcd => ?_) (fun hcd => ?_)|refine zu (fun hcd => ?_) (fun hcd => ?_)|refine zX ?_|refine zY ?_|refine zv (fun hcd => ?_) (fun hcd => ?_)|refine zk ?_|refine zl ?_|refine zm ?_|refine zn ?_|refine zf ?_|refine zg ?_|refine zj ?_|refine zZ ?_|refine zh ?_|refine zi ?_|refine zo ?_|refine zp ?_|refine zq ?_|refine zr ?_|refine zs ?_)
        refine ⟨i + 1, ⟨rfl, trivial⟩, ⟨by omega, rfl, fun j hj => ?_⟩, by omega⟩
        by_cases e : j = i
        · subst e; exact ⟨⟨c1.1, by omega⟩, fun _ => by rw [e1] at c2; exact c2⟩
        · exact hall j (by omega)
      · rw [← e1] at c2
        repeat' (first|refine za ?_|refine zA ?_|refine zB ?_|refine zb ?_|refine zc ?_|refine ze ?_|refine zd ?_|refine zC ?_|refine zD ?_|refine zE ?_|refine zF ?_|refine zG ?_|refine zH ?_|refine zI ?_|refine zJ ?_|refine zK ?_|refine zL ?_|refine zM ?_|refine zN ?_|refine zO ?_|refine zP ?_|refine zQ ?_|refine zR ?_|refine zS ?_|refine zU ?_|refine zV ?_|refine zW ?_|refine zt (fun hcd => ?_) (fun hcd => ?_)|refine zu (fun hcd => ?_) (fun hcd => ?_)|refine zX ?_|refine zY ?_|refine zv (fun hcd => ?_) (fun hcd => ?_)|refine zk ?_|refine zl ?_|refine zm ?_|refine zn ?_|refine zf ?_|refine zg ?_|refine zj ?_|refine zZ ?_|refine zh ?_|refine zi ?_|refine zo ?_|refine zp ?_|refine zq ?_|refine zr ?_|refine zs ?_)
        refine post1 (v := .bool false) rfl rfl ?_
        exact ⟨by rw [bad fun hh => c2 (by rw [e1]; exact hh.2 c0)], hE1⟩
    · repeat' (first|refine za ?_|refine zA ?_|refine zB ?_|refine zb ?_|refine zc ?_|refine ze ?_|refine zd ?_|refine zC ?_|refine zD ?_|refine zE ?_|refine zF ?_|refine zG ?_|refine zH ?_|refine zI ?_|refine zJ ?_|refine zK ?_|refine zL ?_|refine zM ?_|refine zN ?_|refine zO ?_|refine zP ?_|refine zQ ?_|refine zR ?_|refine zS ?_|refine zU ?_|refine zV ?_|refine zW ?_|refine zt (fun hcd => ?_) (fun hcd => ?_)|refine zu (fun hcd => ?_) (fun hcd => ?_)|refine zX ?_|refine zY ?_|refine zv (fun hcd => ?_) (fun hcd => ?_)|refine zk ?_|refine zl ?_|refine zm ?_|refine zn ?_|refine zf ?_|refine zg ?_|refine zj ?_|refine zZ ?_|refine zh ?_|refine zi ?_|refine zo ?_|refine zp ?_|refine zq ?_|refine zr ?_|refine zs ?_)
      refine ⟨i + 1, ⟨rfl, trivial⟩, ⟨by omega, rfl, fun j hj => ?_⟩, by omega⟩
      by_cases e : j = i
      · subst e; exact ⟨⟨c1.1, by omega⟩, fun h => absurd h c0⟩
      · exact hall j (by omega)
  · have : i = S.length := by omega
    subst this
    by_cases h0 : 0 < S.length
    · repeat' (first|refine za ?_|refine zA ?_|refine zB ?_|refine zb ?_|refine zc ?_|refine ze ?_|refine zd ?_|refine zC ?_|refine zD ?_|refine zE ?_|refine zF ?_|refine zG ?_|refine zH ?_|refine zI ?_|refine zJ ?_|refine zK ?_|refine zL ?_|refine zM ?_|refine zN ?_|refine zO ?_|refine zP ?_|refine zQ ?_|refine zR ?_|refine zS ?_|refine zU ?_|refine zV ?_|refine zW ?_|refine zt (fun hcd => ?_) (fun hcd => ?_)|refine zu (fun hcd => ?_) (fun hcd => ?_)|refine zX ?_|refine zY ?_|refine zv (fun hcd => ?_) (fun hcd => ?_)|refine zk ?_|refine zl ?_|refine zm ?_|refine zn ?_|refine zf ?_|refine zg ?_|refine zj ?_|refine zZ ?_|refine zh ?_|refine zi ?_|refine zo ?_|refine zp ?_|refine zq ?_|refine zr ?_|refine zs ?_)
      refine post1 (v := .bool true) rfl rfl ?_
      exact ⟨by rw [decide_eq_true (show IsS n S from ⟨h0, hall⟩)], hE1⟩
    · repeat' (first|refine za ?_|refine zA ?_|refine zB ?_|refine zb ?_|refine zc ?_|refine ze ?_|refine zd ?_|refine zC ?_|refine zD ?_|refine zE ?_|refine zF ?_|refine zG ?_|refine zH ?_|refine zI ?_|refine zJ ?_|refine zK ?_|refine zL ?_|refine zM ?_|refine zN ?_|refine zO ?_|refine zP ?_|refine zQ ?_|refine zR ?_|refine zS ?_|refine zU ?_|refine zV ?_|refine zW ?_|refine zt (fun hcd => ?_) (fun hcd => ?_)|refine zu (fun hcd => ?_) (fun hcd => ?_)|refine zX ?_|refine zY ?_|refine zv (fun hcd => ?_) (fun hcd => ?_)|refine zk ?_|refine zl ?_|refine zm ?_|refine zn ?_|refine zf ?_|refine zg ?_|refine zj ?_|refine zZ ?_|refine zh ?_|refine zi ?_|refine zo ?_|refine zp ?_|refine zq ?_|refine zr ?_|refine zs ?_)
      refine post1 (v := .bool false) rfl rfl ?_
      exact ⟨by rw [decide_eq_false fun hs : IsS n S => h0 hs.1], hE1⟩
end Go.Proofs.Ytibegggcinonkaa
