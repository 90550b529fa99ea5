/- forks: the reference's unique, Longest. -/
import Derived.Test.YtkdakleckdkhiaaAb
import Derived.Test.YtkdakleckdkhiaaPLv
namespace Go.Proofs.Ytkdakleckdkhiaa
open Gv
set_option maxRecDepth 20000 in
set_option maxHeartbeats 8000000 in
theorem unique_any (v : Value) (L : List Str) (w : World) (hS : Strs w v L) (hs : L.Pairwise (· ≤ ·)) (hl : L.length ≤ 1000000) :
    Calls Try.prog 72 #[v] w (Ret fun v' w' => ∃ X, OwnS w' w.heap.size v' X ∧ Uq L L.length X ∧ Ext w w') := by
  obtain ⟨q, c, rfl, hc⟩ := hS.slice
  refine calls_of_wc (args := [.slice q L.length c]) Try.func72 rfl ?_ ?_; kernel_rfl
  repeat' (first|refine za ?_|refine zA ?_|refine zB ?_|refine zb ?_|refine zc ?_|refine ze ?_|refine zd ?_|refine zC ?_|refine zD ?_|refine zE ?_|refine zF ?_|refine zG ?_|refine zH ?_|refine zI ?_|refine zJ ?_|refine zK ?_|refine zL ?_|refine zM ?_|refine zN ?_|refine zO ?_|refine zP ?_|refine zQ ?_|refine zR ?_|refine zS ?_|refine zU ?_|refine zV ?_|refine zW ?_|refine zt (fun hcd => ?_) (fun hcd => ?_)|refine zu (fun hcd => ?_) (fun hcd => ?_)|refine zX ?_|refine zY ?_|refine zv (fun hcd => ?_) (fun hcd => ?_)|refine zk ?_|refine zl ?_|refine zm ?_|refine zn ?_|refine zf ?_|refine zg ?_|refine zj ?_|refine zZ ?_|refine zh ?_|refine zi ?_|refine zo ?_|refine zp ?_|refine zq ?_|refine zr ?_|refine zs ?_)
  refine wc_loop2 [0] (fun (i : Nat) (vo : Value) => [(4, .int .i64 i), (3, vo)]) (fun i vo wk => i ≤ L.length ∧ Ext w wk ∧ ∃ X, OwnS wk w.heap.size vo X ∧ Uq L i X) (fun i _ => L.length - i) 0 (.slice none 0 0) rfl ⟨rfl, rfl, trivial⟩ ⟨by omega, Ext.refl _, [], World.ownsRow_nil _ _ _ _, Uq.zero L⟩ ?_
  rintro i vo wk x ⟨hi, hE, X, hO, hU⟩
  have hXl := hU.len
  obtain ⟨qx, cx, rfl, _⟩ := hO.strs.slice
  by_cases hiL : i < L.length
  rotate_left 1
  · obtain rfl : i = L.length := by omega
    repeat' (first|refine za ?_|refine zA ?_|refine zB ?_|refine zb ?_|refine zc ?_|refine ze ?_|refine zd ?_|refine zC ?_|refine zD ?_|refine zE ?_|refine zF ?_|refine zG ?_|refine zH ?_|refine zI ?_|refine zJ ?_|refine zK ?_|refine zL ?_|refine zM ?_|refine zN ?_|refine zO ?_|refine zP ?_|refine zQ ?_|refine zR ?_|refine zS ?_|refine zU ?_|refine zV ?_|refine zW ?_|refine zt (fun hcd => ?_) (fun hcd => ?_)|refine zu (fun hcd => ?_) (fun hcd => ?_)|refine zX ?_|refine zY ?_|refine zv (fun hcd => ?_) (fun hcd => ?_)|refine zk ?_|refine zl ?_|refine zm ?_|refine zn ?_|refine zf ?_|refine zg ?_|refine zj ?_|refine zZ ?_|refine zh ?_|refine zi ?_|refine zo ?_|refine zp ?_|refine zq ?_|refine zr ?_|refine zs ?_)
    refine post1 (v := .slice qx X.length cx) rfl rfl ?_
    exact ⟨X, hO, hU, hE⟩
  have hEd := hE.trans (Ext.drew wk)
  have hOd : OwnS wk.drew w.heap.size (.slice qx X.length cx) X := OwnS.ext hO (Ext.drew wk)
  have hps := hS.isSome (by omega)
  have hri := strs_get0 (hS.ext hEd) hiL (j := (i : Int)) rfl
  have fin : ∀ (v' : Value) (w' : World), (i = 0 ∨ L.getD (i - 1) [] ≠ L.getD i []) → Gv.Own w' w.heap.size 9 v' (strs X ++ [str (L.getD i [])]) → wk.drew.grownBy w' (Value.slice qx X.length cx).ownBlock → Ext w w' ∧ ∃ X', OwnS w' w.heap.size v' X' ∧ Uq L (i + 1) X' := fun v' w' hne g1 g2 =>
    ⟨Ch.ext_new hEd (Ch.grown g2 fun g hg => (World.ownsRow.lt hOd g hg).1) (Nat.le_refl _), _, OwnS.of (by rw [strs, List.map_append]; exact g1), hU.add hs hiL hne⟩
  by_cases h0 : i = 0
  · generalize L.getD i [] = s at *
    repeat' (first|refine za ?_|refine zA ?_|refine zB ?_|refine zb ?_|refine zc ?_|refine ze ?_|refine zd ?_|refine zC ?_|refine zD ?_|refine zE ?_|refine zF ?_|refine zG ?_|refine zH ?_|refine zI ?_|refine zJ ?_|refine zK ?_|refine zL ?_|refine zM ?_|refine zN ?_|refine zO ?_|refine zP ?_|refine zQ ?_|refine zR ?_|refine zS ?_|refine zU ?_|refine zV ?_|refine zW ?_|refine zt (fun hcd => ?_) (fun hcd => ?_)|refine zu (fun hcd => ?_) (fun hcd => ?_)|refine zX ?_|refine zY ?_|refine zv (fun hcd => ?_) (fun hcd => ?_)|refine zk ?_|refine zl ?_|refine zm ?_|refine zn ?_|refine zf ?_|refine zg ?_|refine zj ?_|refine zZ ?_|refine zh ?_|refine zi ?_|refine zo ?_|refine zp ?_|refine zq ?_|refine zr ?_|refine zs ?_)
    refine wc_drawn 12 (by kernel_rfl) (by kernel_rfl) ?_
    repeat' (first|refine za ?_|refine zA ?_|refine zB ?_|refine zb ?_|refine zc ?_|refine ze ?_|refine zd ?_|refine zC ?_|refine zD ?_|refine zE ?_|refine zF ?_|refine zG ?_|refine zH ?_|refine zI ?_|refine zJ ?_|refine zK ?_|refine zL ?_|refine zM ?_|refine zN ?_|refine zO ?_|refine zP ?_|refine zQ ?_|refine zR ?_|refine zS ?_|refine zU ?_|refine zV ?_|refine zW ?_|refine zt (fun hcd => ?_) (fun hcd => ?_)|refine zu (fun hcd => ?_) (fun hcd => ?_)|refine zX ?_|refine zY ?_|refine zv (fun hcd => ?_) (fun hcd => ?_)|refine zk ?_|refine zl ?_|refine zm ?_|refine zn ?_|refine zf ?_|refine zg ?_|refine zj ?_|refine zZ ?_|refine zh ?_|refine zi ?_|refine zo ?_|refine zp ?_|refine zq ?_|refine zr ?_|refine zs ?_)
    refine r_append1_v (u := str s) el32 rfl (by decide) hOd.own rfl rfl rfl (by rw [strs_len]; omega) hEd.size fun v' w' q g1 g2 g3 g4 => ?_
    obtain ⟨e1, e2⟩ := fin v' w' (.inl h0) g1 g2
    repeat' (first|refine za ?_|refine zA ?_|refine zB ?_|refine zb ?_|refine zc ?_|refine ze ?_|refine zd ?_|refine zC ?_|refine zD ?_|refine zE ?_|refine zF ?_|refine zG ?_|refine zH ?_|refine zI ?_|refine zJ ?_|refine zK ?_|refine zL ?_|refine zM ?_|refine zN ?_|refine zO ?_|refine zP ?_|refine zQ ?_|refine zR ?_|refine zS ?_|refine zU ?_|refine zV ?_|refine zW ?_|refine zt (fun hcd => ?_) (fun hcd => ?_)|refine zu (fun hcd => ?_) (fun hcd => ?_)|refine zX ?_|refine zY ?_|refine zv (fun hcd => ?_) (fun hcd => ?_)|refine zk ?_|refine zl ?_|refine zm ?_|refine zn ?_|refine zf ?_|refine zg ?_|refine zj ?_|refine zZ ?_|refine zh ?_|refine zi ?_|refine zo ?_|refine zp ?_|refine zq ?_|refine zr ?_|refine zs ?_)
    exact ⟨i + 1, v', ⟨rfl, rfl, trivial⟩, ⟨by omega, e1, e2⟩, by omega⟩
  · have hrp := strs_get0 (hS.ext hEd) (i := i - 1) (by omega) (j := (i : Int) - 1) (by omega)
    by_cases he : L.getD (i - 1) [] = L.getD i []
    · have hU2 := hU.skip (by omega) hiL he
      generalize L.getD i [] = s at *
      generalize L.getD (i - 1) [] = s' at *
      repeat' (first|refine za ?_|refine zA ?_|refine zB ?_|refine zb ?_|refine zc ?_|refine ze ?_|refine zd ?_|refine zC ?_|refine zD ?_|refine zE ?_|refine zF ?_|refine zG ?_|refine zH ?_|refine zI ?_|refine zJ ?_|refine zK ?_|refine zL ?_|refine zM ?_|refine zN ?_|refine zO ?_|refine zP ?_|refine zQ ?_|refine zR ?_|refine zS ?_|refine zU ?_|refine zV ?_|refine zW ?_|refine zt (fun hcd => ?_) (fun hcd => ?_)|refine zu (fun hcd => ?_) (fun hcd => ?_)|refine zX ?_|refine zY ?_|refine zv (fun hcd => ?_) (fun hcd => ?_)|refine zk ?_|refine zl ?_|refine zm ?_|refine zn ?_|refine zf ?_|refine zg ?_|refine zj ?_|refine zZ ?_|refine zh ?_|refine zi ?_|refine zo ?_|refine zp ?_|refine zq ?_|refine zr ?_|refine zs ?_)
      refine wc_drawn 12 (by kernel_rfl) (by kernel_rfl) ?_
      repeat' (first|refine za ?_|refine zA ?_|refine zB ?_|refine zb ?_|refine zc ?_|refine ze ?_|refine zd ?_|refine zC ?_|refine zD ?_|refine zE ?_|refine zF ?_|refine zG ?_|refine zH ?_|refine zI ?_|refine zJ ?_|refine zK ?_|refine zL ?_|refine zM ?_|refine zN ?_|refine zO ?_|refine zP ?_|refine zQ ?_|refine zR ?_|refine zS ?_|refine zU ?_|refine zV ?_|refine zW ?_|refine zt (fun hcd => ?_) (fun hcd => ?_)|refine zu (fun hcd => ?_) (fun hcd => ?_)|refine zX ?_|refine zY ?_|refine zv (fun hcd => ?_) (fun hcd => ?_)|refine zk ?_|refine zl ?_|refine zm ?_|refine zn ?_|refine zf ?_|refine zg ?_|refine zj ?_|refine zZ ?_|refine zh ?_|refine zi ?_|refine zo ?_|refine zp ?_|refine zq ?_|refine zr ?_|refine zs ?_)
      refine r_sneq_v (a := s') (b := s) (c := false) rfl rfl (by simp [he]) ?_
      repeat' (first|refine za ?_|refine zA ?_|refine zB ?_|refine zb ?_|refine zc ?_|refine ze ?_|refine zd ?_|refine zC ?_|refine zD ?_|refine zE ?_|refine zF ?_|refine zG ?_|refine zH ?_|refine zI ?_|refine zJ ?_|refine zK ?_|refine zL ?_|refine zM ?_|refine zN ?_|refine zO ?_|refine zP ?_|refine zQ ?_|refine zR ?_|refine zS ?_|refine zU ?_|refine zV ?_|refine zW ?_|refine zt (fun hcd => ?_) (fun hcd => ?_)|refine zu (fun hcd => ?_) (fun hcd => ?_)|refine zX ?_|refine zY ?_|refine zv (fun hcd => ?_) (fun hcd => ?_)|refine zk ?_|refine zl ?_|refine zm ?_|refine zn ?_|refine zf ?_|refine zg ?_|refine zj ?_|refine zZ ?_|refine zh ?_|refine zi ?_|refine zo ?_|refine zp ?_|refine zq ?_|refine zr ?_|refine zs ?_)
      exact ⟨i + 1, .slice qx X.length cx, ⟨rfl, rfl, trivial⟩, ⟨by omega, hEd, X, hOd, hU2⟩, by omega⟩
    · generalize L.getD i [] = s at *
      generalize L.getD (i - 1) [] = s' at *
      repeat' (first|refine za ?_|refine zA ?_|refine zB ?_|refine zb ?_|refine zc ?_|refine ze ?_|refine zd ?_|refine zC ?_|refine zD ?_|refine zE ?_|refine zF ?_|refine zG ?_|refine zH ?_|refine zI ?_|refine zJ ?_|refine zK ?_|refine zL ?_|refine zM ?_|refine zN ?_|refine zO ?_|refine zP ?_|refine zQ ?_|refine zR ?_|refine zS ?_|refine zU ?_|refine zV ?_|refine zW ?_|refine zt (fun hcd => ?_) (fun hcd => ?_)|refine zu (fun hcd => ?_) (fun hcd => ?_)|refine zX ?_|refine zY ?_|refine zv (fun hcd => ?_) (fun hcd => ?_)|refine zk ?_|refine zl ?_|refine zm ?_|refine zn ?_|refine zf ?_|refine zg ?_|refine zj ?_|refine zZ ?_|refine zh ?_|refine zi ?_|refine zo ?_|refine zp ?_|refine zq ?_|refine zr ?_|refine zs ?_)
      refine wc_drawn 12 (by kernel_rfl) (by kernel_rfl) ?_
      repeat' (first|refine za ?_|refine zA ?_|refine zB ?_|refine zb ?_|refine zc ?_|refine ze ?_|refine zd ?_|refine zC ?_|refine zD ?_|refine zE ?_|refine zF ?_|refine zG ?_|refine zH ?_|refine zI ?_|refine zJ ?_|refine zK ?_|refine zL ?_|refine zM ?_|refine zN ?_|refine zO ?_|refine zP ?_|refine zQ ?_|refine zR ?_|refine zS ?_|refine zU ?_|refine zV ?_|refine zW ?_|refine zt (fun hcd => ?_) (fun hcd => ?_)|refine zu (fun hcd => ?_) (fun hcd => ?_)|refine zX ?_|refine zY ?_|refine zv (fun hcd => ?_) (fun hcd => ?_)|refine zk ?_|refine zl ?_|refine zm ?_|refine zn ?_|refine zf ?_|refine zg ?_|refine zj ?_|refine zZ ?_|refine zh ?_|refine zi ?_|refine zo ?_|refine zp ?_|refine zq ?_|refine zr ?_|refine zs ?_)
      refine r_sneq_v (a := s') (b := s) (c := true) rfl rfl (by simp [he]) ?_
      repeat' (first|refine za ?_|refine zA ?_|refine zB ?_|refine zb ?_|refine zc ?_|refine ze ?_|refine zd ?_|refine zC ?_|refine zD ?_|refine zE ?_|refine zF ?_|refine zG ?_|refine zH ?_|refine zI ?_|refine zJ ?_|refine zK ?_|refine zL ?_|refine zM ?_|refine zN ?_|refine zO ?_|refine zP ?_|refine zQ ?_|refine zR ?_|refine zS ?_|refine zU ?_|refine zV ?_|refine zW ?_|refine zt (fun hcd => ?_) (fun hcd => ?_)|refine zu (fun hcd => ?_) (fun hcd => ?_)|refine zX ?_|refine zY ?_|refine zv (fun hcd => ?_) (fun hcd => ?_)|refine zk ?_|refine zl ?_|refine zm ?_|refine zn ?_|refine zf ?_|refine zg ?_|refine zj ?_|refine zZ ?_|refine zh ?_|refine zi ?_|refine zo ?_|refine zp ?_|refine zq ?_|refine zr ?_|refine zs ?_)
      refine r_append1_v (u := str s) el32 rfl (by decide) hOd.own rfl rfl rfl (by rw [strs_len]; omega) hEd.size fun v' w' q g1 g2 g3 g4 => ?_
      obtain ⟨e1, e2⟩ := fin v' w' (.inr he) g1 g2
      repeat' (first|refine za ?_|refine zA ?_|refine zB ?_|refine zb ?_|refine zc ?_|refine ze ?_|refine zd ?_|refine zC ?_|refine zD ?_|refine zE ?_|refine zF ?_|refine zG ?_|refine zH ?_|refine zI ?_|refine zJ ?_|refine zK ?_|refine zL ?_|refine zM ?_|refine zN ?_|refine zO ?_|refine zP ?_|refine zQ ?_|refine zR ?_|refine zS ?_|refine zU ?_|refine zV ?_|refine zW ?_|refine zt (fun hcd => ?_) (fun hcd => ?_)|refine zu (fun hcd => ?_) (fun hcd => ?_)|refine zX ?_|refine zY ?_|refine zv (fun hcd => ?_) (fun hcd => ?_)|refine zk ?_|refine zl ?_|refine zm ?_|refine zn ?_|refine zf ?_|refine zg ?_|refine zj ?_|refine zZ ?_|refine zh ?_|refine zi ?_|refine zo ?_|refine zp ?_|refine zq ?_|refine zr ?_|refine zs ?_)
      exact ⟨i + 1, v', ⟨rfl, rfl, trivial⟩, ⟨by omega, e1, e2⟩, by omega⟩
theorem txs_getD {Q : List T} {i : Nat} (h : i < Q.length) : (txs Q).getD i [] = (Q.getD i .lf).text := getD_text h
theorem take_getDT {Q : List T} {i : Nat} (h : i < Q.length) : Q.take (i + 1) = Q.take i ++ [Q.getD i .lf] := by
  rw [List.take_succ_eq_append_getElem h]; simp [List.getD, h]
theorem belowRb_any (x y : T) (b : Bool) (w : World) (hs : x.size = y.size) (hb : x.size ≤ 1000) (h : decide (x.le y) = b) : Calls Try.prog 47 #[str x.text, str y.text] w (Ret fun v w' => v = .bool b ∧ Ext w w') := by
  subst h; exact belowR_any x y w hs hb
theorem nbS_mem {t : T} {s : Str} : s ∈ nbS t true ↔ ∃ z, up1 t z ∧ s = z.text := by
  unfold nbS
  rw [mem_turns]
  simp only [turnL_up, mem_ups]
theorem nbS_tree {t : T} {s : Str} (h : s ∈ nbS t true) : ∃ z, up1 t z ∧ s = z.text := nbS_mem.1 h
set_option maxRecDepth 20000 in
set_option maxHeartbeats 16000000 in
theorem longR_any (x y : T) (w : World) (hxy : x.size = y.size) (hx : x.size ≤ 10) :
    Calls Try.prog 28 #[str x.text, str y.text] w (Ret fun v w' => Ext w w' ∧ ((x.le y ∧ ∃ m : Nat, IsLp x y m ∧ v = .tuple #[.int .i64 (m : Int), .bool true]) ∨ (¬ x.le y ∧ v = .tuple #[.int .i64 0, .bool false]))) := by
  refine calls_of_wc (args := [str x.text, str y.text]) Try.func28 rfl ?_ ?_; kernel_rfl
  by_cases hle : x.le y
  rotate_left 1
  · repeat' (first|refine za ?_|refine zA ?_|refine zB ?_|refine zb ?_|refine zc ?_|refine ze ?_|refine zd ?_|refine zC ?_|refine zD ?_|refine zE ?_|refine zF ?_|refine zG ?_|refine zH ?_|refine zI ?_|refine zJ ?_|refine zK ?_|refine zL ?_|refine zM ?_|refine zN ?_|refine zO ?_|refine zP ?_|refine zQ ?_|refine zR ?_|refine zS ?_|refine zU ?_|refine zV ?_|refine zW ?_|refine zt (fun hcd => ?_) (fun hcd => ?_)|refine zu (fun hcd => ?_) (fun hcd => ?_)|refine zX ?_|refine zY ?_|refine zv (fun hcd => ?_) (fun hcd => ?_)|refine zk ?_|refine zl ?_|refine zm ?_|refine zn ?_|refine zf ?_|refine zg ?_|refine zj ?_|refine zZ ?_|refine zh ?_|refine zi ?_|refine zo ?_|refine zp ?_|refine zq ?_|refine zr ?_|refine zs ?_)
    (refine r_call (R := ?_) rfl ?_ ?_; rotate_left 1; focus exact belowRb_any x y false w hxy (by omega) (decide_eq_false hle))
    rintro v1 w1 ⟨rfl, hE1⟩
    repeat' (first|refine za ?_|refine zA ?_|refine zB ?_|refine zb ?_|refine zc ?_|refine ze ?_|refine zd ?_|refine zC ?_|refine zD ?_|refine zE ?_|refine zF ?_|refine zG ?_|refine zH ?_|refine zI ?_|refine zJ ?_|refine zK ?_|refine zL ?_|refine zM ?_|refine zN ?_|refine zO ?_|refine zP ?_|refine zQ ?_|refine zR ?_|refine zS ?_|refine zU ?_|refine zV ?_|refine zW ?_|refine zt (fun hcd => ?_) (fun hcd => ?_)|refine zu (fun hcd => ?_) (fun hcd => ?_)|refine zX ?_|refine zY ?_|refine zv (fun hcd => ?_) (fun hcd => ?_)|refine zk ?_|refine zl ?_|refine zm ?_|refine zn ?_|refine zf ?_|refine zg ?_|refine zj ?_|refine zZ ?_|refine zh ?_|refine zi ?_|refine zo ?_|refine zp ?_|refine zq ?_|refine zr ?_|refine zs ?_)
    refine post2 (v1 := .int .i64 0) (v2 := .bool false) rfl rfl rfl ?_
    exact ⟨hE1, .inr ⟨hle, rfl⟩⟩
  repeat' (first|refine za ?_|refine zA ?_|refine zB ?_|refine zb ?_|refine zc ?_|refine ze ?_|refine zd ?_|refine zC ?_|refine zD ?_|refine zE ?_|refine zF ?_|refine zG ?_|refine zH ?_|refine zI ?_|refine zJ ?_|refine zK ?_|refine zL ?_|refine zM ?_|refine zN ?_|refine zO ?_|refine zP ?_|refine zQ ?_|refine zR ?_|refine zS ?_|refine zU ?_|refine zV ?_|refine zW ?_|refine zt (fun hcd => ?_) (fun hcd => ?_)|refine zu (fun hcd => ?_) (fun hcd => ?_)|refine zX ?_|refine zY ?_|refine zv (fun hcd => ?_) (fun hcd => ?_)|refine zk ?_|refine zl ?_|refine zm ?_|refine zn ?_|refine zf ?_|refine zg ?_|refine zj ?_|refine zZ ?_|refine zh ?_|refine zi ?_|refine zo ?_|refine zp ?_|refine zq ?_|refine zr ?_|refine zs ?_)
  (refine r_call (R := ?_) rfl ?_ ?_; rotate_left 1; focus exact belowRb_any x y true w hxy (by omega) (decide_eq_true hle))
  rintro v1 w1 ⟨rfl, hE1⟩
  repeat' (first|refine za ?_|refine zA ?_|refine zB ?_|refine zb ?_|refine zc ?_|refine ze ?_|refine zd ?_|refine zC ?_|refine zD ?_|refine zE ?_|refine zF ?_|refine zG ?_|refine zH ?_|refine zI ?_|refine zJ ?_|refine zK ?_|refine zL ?_|refine zM ?_|refine zN ?_|refine zO ?_|refine zP ?_|refine zQ ?_|refine zR ?_|refine zS ?_|refine zU ?_|refine zV ?_|refine zW ?_|refine zt (fun hcd => ?_) (fun hcd => ?_)|refine zu (fun hcd => ?_) (fun hcd => ?_)|refine zX ?_|refine zY ?_|refine zv (fun hcd => ?_) (fun hcd => ?_)|refine zk ?_|refine zl ?_|refine zm ?_|refine zn ?_|refine zf ?_|refine zg ?_|refine zj ?_|refine zZ ?_|refine zh ?_|refine zi ?_|refine zo ?_|refine zp ?_|refine zq ?_|refine zr ?_|refine zs ?_)
  refine r_buildS1 (u := str x.text) el32 rfl rfl fun w2 hO2 hE2 hs2 => ?_
  have hE02 := hE1.trans hE2
  repeat' (first|refine za ?_|refine zA ?_|refine zB ?_|refine zb ?_|refine zc ?_|refine ze ?_|refine zd ?_|refine zC ?_|refine zD ?_|refine zE ?_|refine zF ?_|refine zG ?_|refine zH ?_|refine zI ?_|refine zJ ?_|refine zK ?_|refine zL ?_|refine zM ?_|refine zN ?_|refine zO ?_|refine zP ?_|refine zQ ?_|refine zR ?_|refine zS ?_|refine zU ?_|refine zV ?_|refine zW ?_|refine zt (fun hcd => ?_) (fun hcd => ?_)|refine zu (fun hcd => ?_) (fun hcd => ?_)|refine zX ?_|refine zY ?_|refine zv (fun hcd => ?_) (fun hcd => ?_)|refine zk ?_|refine zl ?_|refine zm ?_|refine zn ?_|refine zf ?_|refine zg ?_|refine zj ?_|refine zZ ?_|refine zh ?_|refine zi ?_|refine zo ?_|refine zp ?_|refine zq ?_|refine zr ?_|refine zs ?_)
  refine wc_loop4 [0, 1] (fun (d : Nat) (vq : Value) (Q : List T) (m : Nat) => [(8, .int .i64 d), (6, vq), (7, .int .i64 (m : Int))])
    (fun d vq Q m wk => Ext w wk ∧ Strs wk vq (txs Q) ∧ Lvl x y d Q ∧ (∀ k, k < d → upN k x y → k ≤ m) ∧ (upN m x y ∨ (m = 0 ∧ ∀ k, k < d → ¬ upN k x y)) ∧ d ≤ 101) (fun d _ _ _ => 101 - d)
    0 (.slice (some ⟨w1.heap.size, 0, none⟩) 1 1) [x] 0 rfl ⟨rfl, rfl, rfl, trivial⟩ ⟨hE02, Gv.Own.sl hO2, Lvl.zero hle, fun k hk => by omega, .inr ⟨rfl, fun k hk => by omega⟩, by omega⟩ ?_
  rintro d vq Q m wk xe ⟨hE, hS, hL, hall, hex, hd⟩
  obtain ⟨qq, cq, eq_, _⟩ := hS.slice
  subst eq_
  have hlQ : (txs Q).length = Q.length := by simp
  have hQb := hL.len hx
  by_cases hQ0 : Q.length = 0
  · have hQn : Q = [] := List.length_eq_zero_iff.1 hQ0
    have hno : ∀ k, upN k x y → k < d := fun k hk => by
      refine Decidable.byContradiction fun hkd => ?_
      have hsplit : ∀ (e k : Nat) (t : T), upN (d + e) x t → t.le y → ∃ u, u ∈ Q := by
        intro e
        induction e with
        | zero => intro _ t ht hty; exact ⟨t, (hL.mem t).2 ⟨ht, hty⟩⟩
        | succ e ih =>
          intro k t ht hty
          obtain ⟨u, hu, hut⟩ := upN_unsnoc (n := d + e) ht
          exact ih k u hu (le_trans (up1_size hut).symm (up1_le hut) hty)
      obtain ⟨u, hu⟩ := hsplit (k - d) k y (by rw [show d + (k - d) = k by omega]; exact hk) (le_refl y)
      rw [hQn] at hu
      cases hu
    have hlp : IsLp x y m := by
      refine ⟨?_, fun k hk => hall k (hno k hk) hk⟩
      rcases hex with h | ⟨_, h⟩
      · exact h
      · obtain ⟨n, hn⟩ := isLp_ex hxy hle
        exact absurd hn.1 (h n (hno n hn.1))
    repeat' (first|refine za ?_|refine zA ?_|refine zB ?_|refine zb ?_|refine zc ?_|refine ze ?_|refine zd ?_|refine zC ?_|refine zD ?_|refine zE ?_|refine zF ?_|refine zG ?_|refine zH ?_|refine zI ?_|refine zJ ?_|refine zK ?_|refine zL ?_|refine zM ?_|refine zN ?_|refine zO ?_|refine zP ?_|refine zQ ?_|refine zR ?_|refine zS ?_|refine zU ?_|refine zV ?_|refine zW ?_|refine zt (fun hcd => ?_) (fun hcd => ?_)|refine zu (fun hcd => ?_) (fun hcd => ?_)|refine zX ?_|refine zY ?_|refine zv (fun hcd => ?_) (fun hcd => ?_)|refine zk ?_|refine zl ?_|refine zm ?_|refine zn ?_|refine zf ?_|refine zg ?_|refine zj ?_|refine zZ ?_|refine zh ?_|refine zi ?_|refine zo ?_|refine zp ?_|refine zq ?_|refine zr ?_|refine zs ?_)
    refine post2 (v1 := .int .i64 (m : Int)) (v2 := .bool true) rfl rfl rfl ?_
    exact ⟨hE, .inl ⟨hle, m, hlp, rfl⟩⟩
  have hd100 : d ≤ 100 := by
    have hm : Q.getD 0 .lf ∈ Q := getD_mem (by omega)
    exact hL.bnd hx hm
  have hmb : m ≤ 100 := by
    rcases hex with h | ⟨h, _⟩
    · have h1 := rk_upN h
      have h2 := rk_nonneg x
      have h3 := rk_bnd y
      have h4 : (y.size : Int) * y.size ≤ 10 * 10 := by
        have := Nat.mul_le_mul (show y.size ≤ 10 by omega) (show y.size ≤ 10 by omega)
        exact_mod_cast this
      omega
    · omega
  repeat' (first|refine za ?_|refine zA ?_|refine zB ?_|refine zb ?_|refine zc ?_|refine ze ?_|refine zd ?_|refine zC ?_|refine zD ?_|refine zE ?_|refine zF ?_|refine zG ?_|refine zH ?_|refine zI ?_|refine zJ ?_|refine zK ?_|refine zL ?_|refine zM ?_|refine zN ?_|refine zO ?_|refine zP ?_|refine zQ ?_|refine zR ?_|refine zS ?_|refine zU ?_|refine zV ?_|refine zW ?_|refine zt (fun hcd => ?_) (fun hcd => ?_)|refine zu (fun hcd => ?_) (fun hcd => ?_)|refine zX ?_|refine zY ?_|refine zv (fun hcd => ?_) (fun hcd => ?_)|refine zk ?_|refine zl ?_|refine zm ?_|refine zn ?_|refine zf ?_|refine zg ?_|refine zj ?_|refine zZ ?_|refine zh ?_|refine zi ?_|refine zo ?_|refine zp ?_|refine zq ?_|refine zr ?_|refine zs ?_)
  refine wc_loop4 [0, 1, 6, 8] (fun (i : Nat) (vn : Value) (N : List Str) (m' : Nat) => [(10, .int .i64 i), (9, vn), (7, .int .i64 (m' : Int))])
    (fun i vn N m' wi => i ≤ Q.length ∧ Ext wk wi ∧ OwnS wi wk.heap.size vn N ∧ NxM y Q i N ∧ N.length ≤ 10 * i ∧ (y ∈ Q.take i → m' = d) ∧ (¬ y ∈ Q.take i → m' = m)) (fun i _ _ _ => Q.length - i)
    0 (.slice none 0 0) [] m rfl ⟨rfl, rfl, rfl, trivial⟩ ⟨by omega, Ext.refl _, World.ownsRow_nil _ _ _ _, fun s => by simp, by simp, by simp, by simp⟩ ?_
  rintro i vn N m' wi xf ⟨hi, hEi, hN, hNx, hNl, hm1, hm2⟩
  obtain ⟨qn, cn, en, _⟩ := hN.strs.slice
  subst en
  by_cases hiQ : i < Q.length
  · have hps := hS.isSome (by omega)
    have hri := strs_get0 (hS.ext hEi) (i := i) (by omega) (j := (i : Int)) rfl
    rw [txs_getD hiQ] at hri
    have htQ : Q.getD i .lf ∈ Q := getD_mem hiQ
    have hts := hL.size htQ
    have htk := take_getDT hiQ
    generalize Q.getD i .lf = t at *
    -- the end of the row
    have hA : ∀ mm : Nat, ((y = t → mm = d) ∧ (y ≠ t → mm = m')) → (y ∈ Q.take (i + 1) → mm = d) ∧ (¬ y ∈ Q.take (i + 1) → mm = m) := fun mm hmm => by
      rw [htk, List.mem_append, List.mem_singleton]
      by_cases hy : y = t
      · exact ⟨fun _ => hmm.1 hy, fun h => absurd (.inr hy) h⟩
      · rw [hmm.2 hy]
        exact ⟨fun h => hm1 (h.resolve_right hy), fun h => hm2 fun h' => h (.inl h')⟩
    have hnl := nbS_len (c := t) (b := true) (by omega)
    repeat' (first | refine wl_plain ?_ | refine r_move_v (v := .int _ _) rfl ?_ | refine r_move_v (v := .slice _ _ _) rfl ?_ | refine r_move_v (v := .bool _) rfl ?_ | refine r_move_v (v := .pointer _) rfl ?_ | refine r_move_v (v := .map _) rfl ?_ | refine r_move ?_ | refine r_assign_v (v := .int _ _) rfl ?_ | refine r_assign_v (v := .slice _ _ _) rfl ?_ | refine r_assign_v (v := .bool _) rfl ?_ | refine r_assign_v (v := .pointer _) rfl ?_ | refine r_assign_v (v := .map _) rfl ?_ | refine r_assign ?_ | refine wl_nil ?_ | refine wc_seq_ne2 12 rfl ?_ | refine thenQ_normal ?_ | refine wc_region ?_ | refine k_lss_t rfl rfl (by omega) ?_ | refine k_lss_f rfl rfl (by omega) ?_ | refine k_leq_t rfl rfl (by omega) ?_ | refine k_leq_f rfl rfl (by omega) ?_ | refine k_gtr_t rfl rfl (by omega) ?_ | refine k_gtr_f rfl rfl (by omega) ?_ | refine k_geq_t rfl rfl (by omega) ?_ | refine k_geq_f rfl rfl (by omega) ?_ | refine k_eql_t rfl rfl (by omega) ?_ | refine k_eql_f rfl rfl (by omega) ?_ | refine k_neq_t rfl rfl (by omega) ?_ | refine k_neq_f rfl rfl (by omega) ?_ | refine r_lss rfl rfl ?_ | refine r_eql rfl rfl ?_ | refine r_neq rfl rfl ?_ | refine r_leq rfl rfl ?_ | refine r_gtr rfl rfl ?_ | refine r_geq rfl rfl ?_ | refine r_add_in rfl rfl (by omega) ?_ | refine r_sub_in rfl rfl (by omega) ?_ | refine r_len rfl rfl ?_ | (refine r_idx (sz := 1) rfl rfl rfl (by first | rfl | assumption) (by omega) (by omega) ?_) | (refine r_idx (sz := 2) rfl rfl rfl (by first | rfl | assumption) (by omega) (by omega) ?_) | (refine r_ld rfl rfl (by assumption) ?_) | refine r_not_d rfl ?_ | refine r_not rfl ?_ | refine r_nilCheck rfl ?_ | refine r_pick_t rfl ?_ | refine r_pick_f rfl ?_ | refine r_ext rfl rfl ?_ | refine wl_run rfl rfl ?_ | refine wl_pass rfl rfl rfl ?_ | refine wl_dead rfl rfl ?_ | refine wl_if_t rfl rfl (fun hcd => ?_) (fun hcd => ?_) | refine wl_if_f rfl rfl (fun hcd => ?_) (fun hcd => ?_) | refine wc_cond_t rfl ?_ | refine wc_cond_f rfl ?_ | refine wc_cond_d rfl (fun hcd => ?_) (fun hcd => ?_) | refine wc_skip ?_ | refine wc_block ?_ | refine wc_exit ?_ | refine wc_ret ?_ | refine thenQ_ret ?_ | refine thenQ_exit ?_ | refine inBl_here ?_ | refine inBl_out rfl ?_ | refine inBl_normal ?_ | refine inBl_ret ?_)
    refine wc_join (σ := Nat) [0, 1, 6, 8, 9, 10] (fun a => [(7, .int .i64 (a : Int))]) (fun a w' => (y = t → a = d) ∧ (y ≠ t → a = m') ∧ w' = wi) rfl ?_ ?_
    · by_cases hty : t.text = y.text
      · have hyt : y = t := (text_inj hty).symm
        repeat' (first|refine za ?_|refine zA ?_|refine zB ?_|refine zb ?_|refine zc ?_|refine ze ?_|refine zd ?_|refine zC ?_|refine zD ?_|refine zE ?_|refine zF ?_|refine zG ?_|refine zH ?_|refine zI ?_|refine zJ ?_|refine zK ?_|refine zL ?_|refine zM ?_|refine zN ?_|refine zO ?_|refine zP ?_|refine zQ ?_|refine zR ?_|refine zS ?_|refine zU ?_|refine zV ?_|refine zW ?_|refine zt (fun hcd => ?_) (fun hcd => ?_)|refine zu (fun hcd => ?_) (fun hcd => ?_)|refine zX ?_|refine zY ?_|refine zv (fun hcd => ?_) (fun hcd => ?_)|refine zk ?_|refine zl ?_|refine zm ?_|refine zn ?_|refine zf ?_|refine zg ?_|refine zj ?_|refine zZ ?_|refine zh ?_|refine zi ?_|refine zo ?_|refine zp ?_|refine zq ?_|refine zr ?_|refine zs ?_)
        refine r_seql_v (a := t.text) (b := y.text) (c := true) rfl rfl (decide_eq_true hty) ?_
        repeat' (first|refine za ?_|refine zA ?_|refine zB ?_|refine zb ?_|refine zc ?_|refine ze ?_|refine zd ?_|refine zC ?_|refine zD ?_|refine zE ?_|refine zF ?_|refine zG ?_|refine zH ?_|refine zI ?_|refine zJ ?_|refine zK ?_|refine zL ?_|refine zM ?_|refine zN ?_|refine zO ?_|refine zP ?_|refine zQ ?_|refine zR ?_|refine zS ?_|refine zU ?_|refine zV ?_|refine zW ?_|refine zt (fun hcd => ?_) (fun hcd => ?_)|refine zu (fun hcd => ?_) (fun hcd => ?_)|refine zX ?_|refine zY ?_|refine zv (fun hcd => ?_) (fun hcd => ?_)|refine zk ?_|refine zl ?_|refine zm ?_|refine zn ?_|refine zf ?_|refine zg ?_|refine zj ?_|refine zZ ?_|refine zh ?_|refine zi ?_|refine zo ?_|refine zp ?_|refine zq ?_|refine zr ?_|refine zs ?_)
        exact ⟨d, ⟨rfl, trivial⟩, fun _ => rfl, fun h => absurd hyt h, rfl⟩
      · have hyt : y ≠ t := fun e => hty (by rw [e])
        repeat' (first|refine za ?_|refine zA ?_|refine zB ?_|refine zb ?_|refine zc ?_|refine ze ?_|refine zd ?_|refine zC ?_|refine zD ?_|refine zE ?_|refine zF ?_|refine zG ?_|refine zH ?_|refine zI ?_|refine zJ ?_|refine zK ?_|refine zL ?_|refine zM ?_|refine zN ?_|refine zO ?_|refine zP ?_|refine zQ ?_|refine zR ?_|refine zS ?_|refine zU ?_|refine zV ?_|refine zW ?_|refine zt (fun hcd => ?_) (fun hcd => ?_)|refine zu (fun hcd => ?_) (fun hcd => ?_)|refine zX ?_|refine zY ?_|refine zv (fun hcd => ?_) (fun hcd => ?_)|refine zk ?_|refine zl ?_|refine zm ?_|refine zn ?_|refine zf ?_|refine zg ?_|refine zj ?_|refine zZ ?_|refine zh ?_|refine zi ?_|refine zo ?_|refine zp ?_|refine zq ?_|refine zr ?_|refine zs ?_)
        refine r_seql_v (a := t.text) (b := y.text) (c := false) rfl rfl (decide_eq_false hty) ?_
        repeat' (first|refine za ?_|refine zA ?_|refine zB ?_|refine zb ?_|refine zc ?_|refine ze ?_|refine zd ?_|refine zC ?_|refine zD ?_|refine zE ?_|refine zF ?_|refine zG ?_|refine zH ?_|refine zI ?_|refine zJ ?_|refine zK ?_|refine zL ?_|refine zM ?_|refine zN ?_|refine zO ?_|refine zP ?_|refine zQ ?_|refine zR ?_|refine zS ?_|refine zU ?_|refine zV ?_|refine zW ?_|refine zt (fun hcd => ?_) (fun hcd => ?_)|refine zu (fun hcd => ?_) (fun hcd => ?_)|refine zX ?_|refine zY ?_|refine zv (fun hcd => ?_) (fun hcd => ?_)|refine zk ?_|refine zl ?_|refine zm ?_|refine zn ?_|refine zf ?_|refine zg ?_|refine zj ?_|refine zZ ?_|refine zh ?_|refine zi ?_|refine zo ?_|refine zp ?_|refine zq ?_|refine zr ?_|refine zs ?_)
        exact ⟨m', ⟨rfl, trivial⟩, fun h => absurd h hyt, fun _ => rfl, rfl⟩
    rintro mm wz xh ⟨hm3, hm4, rfl⟩
    have hAm := hA mm ⟨hm3, hm4⟩
    repeat' (first|refine za ?_|refine zA ?_|refine zB ?_|refine zb ?_|refine zc ?_|refine ze ?_|refine zd ?_|refine zC ?_|refine zD ?_|refine zE ?_|refine zF ?_|refine zG ?_|refine zH ?_|refine zI ?_|refine zJ ?_|refine zK ?_|refine zL ?_|refine zM ?_|refine zN ?_|refine zO ?_|refine zP ?_|refine zQ ?_|refine zR ?_|refine zS ?_|refine zU ?_|refine zV ?_|refine zW ?_|refine zt (fun hcd => ?_) (fun hcd => ?_)|refine zu (fun hcd => ?_) (fun hcd => ?_)|refine zX ?_|refine zY ?_|refine zv (fun hcd => ?_) (fun hcd => ?_)|refine zk ?_|refine zl ?_|refine zm ?_|refine zn ?_|refine zf ?_|refine zg ?_|refine zj ?_|refine zZ ?_|refine zh ?_|refine zi ?_|refine zo ?_|refine zp ?_|refine zq ?_|refine zr ?_|refine zs ?_)
    (refine r_call (R := ?_) rfl ?_ ?_; rotate_left 1; focus exact aboveR_any t wz (by omega))
    rintro v4 w4 ⟨hO4, hE4⟩
    have hmemA : ∀ s, s ∈ nbS t true ↔ ∃ z, up1 t z ∧ s = z.text := fun s => nbS_mem
    generalize nbS t true = A at *
    obtain ⟨q4, c4, e4, _⟩ := hO4.strs.slice
    subst e4
    have b4 : ∀ g, (Value.slice q4 A.length c4).ownBlock = some g → wz.heap.size ≤ g ∧ g < w4.heap.size := fun g hg => World.ownsRow.lt hO4 g hg
    have bn : ∀ g, (Value.slice qn N.length cn).ownBlock = some g → g < wz.heap.size := fun g hg => (World.ownsRow.lt hN g hg).2
    repeat' (first|refine za ?_|refine zA ?_|refine zB ?_|refine zb ?_|refine zc ?_|refine ze ?_|refine zd ?_|refine zC ?_|refine zD ?_|refine zE ?_|refine zF ?_|refine zG ?_|refine zH ?_|refine zI ?_|refine zJ ?_|refine zK ?_|refine zL ?_|refine zM ?_|refine zN ?_|refine zO ?_|refine zP ?_|refine zQ ?_|refine zR ?_|refine zS ?_|refine zU ?_|refine zV ?_|refine zW ?_|refine zt (fun hcd => ?_) (fun hcd => ?_)|refine zu (fun hcd => ?_) (fun hcd => ?_)|refine zX ?_|refine zY ?_|refine zv (fun hcd => ?_) (fun hcd => ?_)|refine zk ?_|refine zl ?_|refine zm ?_|refine zn ?_|refine zf ?_|refine zg ?_|refine zj ?_|refine zZ ?_|refine zh ?_|refine zi ?_|refine zo ?_|refine zp ?_|refine zq ?_|refine zr ?_|refine zs ?_)
    refine wc_loop3 [0, 1, 6, 7, 8, 10, 11] (fun (j : Nat) (vn : Value) (M : List Str) => [(12, .int .i64 j), (9, vn)])
      (fun j vn M wj => j ≤ A.length ∧ Ext wk wj ∧ Strs wj (.slice q4 A.length c4) A ∧ w4.heap.size ≤ wj.heap.size ∧ OwnS wj wk.heap.size vn M ∧ (∀ g, vn.ownBlock = some g → g < wz.heap.size ∨ w4.heap.size ≤ g) ∧ (∀ s, s ∈ M ↔ s ∈ N ∨ (s ∈ A.take j ∧ ∃ z : T, up1 t z ∧ z.le y ∧ s = z.text)) ∧ M.length ≤ N.length + j) (fun j _ _ => A.length - j)
      0 (.slice qn N.length cn) N rfl ⟨rfl, rfl, trivial⟩ ⟨by omega, hEi.trans hE4, hO4.strs, Nat.le_refl _, OwnS.ext hN hE4, fun g hg => .inl (bn g hg), fun s => by simp, by omega⟩ ?_
    rintro j vm M wj xg ⟨hj, hEj, hSj, hzj, hM, hbM, hMm, hMl⟩
    obtain ⟨qm, cm, em, _⟩ := hM.strs.slice
    subst em
    by_cases hjA : j < A.length
    · have hp4 := hSj.isSome (by omega)
      have hrj := strs_get0 hSj hjA (j := (j : Int)) rfl
      have hsA : A.getD j [] ∈ A := getD_mem hjA
      have htj := take_getD hjA
      obtain ⟨z, hz, ez⟩ := (hmemA _).1 hsA
      rw [ez] at hrj htj
      have hzs := up1_size hz
      have hup : ∀ s : Str, (s ∈ A.take (j + 1) ∧ ∃ z : T, up1 t z ∧ z.le y ∧ s = z.text) ↔ ((s ∈ A.take j ∧ ∃ z : T, up1 t z ∧ z.le y ∧ s = z.text) ∨ (s = z.text ∧ z.le y)) := fun s => by
        rw [htj, List.mem_append, List.mem_singleton]
        constructor
        · rintro ⟨h1 | rfl, h2⟩
          · exact .inl ⟨h1, h2⟩
          · obtain ⟨z', hz', hle', e⟩ := h2
            rw [← text_inj e] at hle'
            exact .inr ⟨rfl, hle'⟩
        · rintro (⟨h1, h2⟩ | ⟨rfl, h2⟩)
          · exact ⟨.inl h1, h2⟩
          · exact ⟨.inr rfl, z, hz, h2, rfl⟩
      by_cases hzy : z.le y
      · repeat' (first|refine za ?_|refine zA ?_|refine zB ?_|refine zb ?_|refine zc ?_|refine ze ?_|refine zd ?_|refine zC ?_|refine zD ?_|refine zE ?_|refine zF ?_|refine zG ?_|refine zH ?_|refine zI ?_|refine zJ ?_|refine zK ?_|refine zL ?_|refine zM ?_|refine zN ?_|refine zO ?_|refine zP ?_|refine zQ ?_|refine zR ?_|refine zS ?_|refine zU ?_|refine zV ?_|refine zW ?_|refine zt (fun hcd => ?_) (fun hcd => ?_)|refine zu (fun hcd => ?_) (fun hcd => ?_)|refine zX ?_|refine zY ?_|refine zv (fun hcd => ?_) (fun hcd => ?_)|refine zk ?_|refine zl ?_|refine zm ?_|refine zn ?_|refine zf ?_|refine zg ?_|refine zj ?_|refine zZ ?_|refine zh ?_|refine zi ?_|refine zo ?_|refine zp ?_|refine zq ?_|refine zr ?_|refine zs ?_)
        (refine r_call (R := ?_) rfl ?_ ?_; rotate_left 1; focus exact belowRb_any z y true wj (by omega) (by omega) (decide_eq_true hzy))
        rintro v5 w5 ⟨rfl, hE5⟩
        have hM5 : OwnS w5 wk.heap.size (.slice qm M.length cm) M := OwnS.ext hM hE5
        have hS5 := hSj.ext hE5
        have hr5 := rd_ext hrj hE5
        have hE45 := hEj.trans hE5
        have z5 := Ext.size hE5
        repeat' (first|refine za ?_|refine zA ?_|refine zB ?_|refine zb ?_|refine zc ?_|refine ze ?_|refine zd ?_|refine zC ?_|refine zD ?_|refine zE ?_|refine zF ?_|refine zG ?_|refine zH ?_|refine zI ?_|refine zJ ?_|refine zK ?_|refine zL ?_|refine zM ?_|refine zN ?_|refine zO ?_|refine zP ?_|refine zQ ?_|refine zR ?_|refine zS ?_|refine zU ?_|refine zV ?_|refine zW ?_|refine zt (fun hcd => ?_) (fun hcd => ?_)|refine zu (fun hcd => ?_) (fun hcd => ?_)|refine zX ?_|refine zY ?_|refine zv (fun hcd => ?_) (fun hcd => ?_)|refine zk ?_|refine zl ?_|refine zm ?_|refine zn ?_|refine zf ?_|refine zg ?_|refine zj ?_|refine zZ ?_|refine zh ?_|refine zi ?_|refine zo ?_|refine zp ?_|refine zq ?_|refine zr ?_|refine zs ?_)
        refine r_append1_v (u := str z.text) el32 rfl (by decide) hM5.own rfl rfl rfl (by rw [strs_len]; omega) hE45.size fun v' w' q g1 g2 g3 g4 => ?_
        have hC : Ch (fun g => wk.heap.size ≤ g) w5 w' := Ch.grown g2 fun g hg => (World.ownsRow.lt hM5 g hg).1
        have hC2 : Ch (fun g => (Value.slice qm M.length cm).ownBlock = some g) w5 w' := Ch.grown g2 fun g hg => hg
        have z6 := g2.size
        repeat' (first|refine za ?_|refine zA ?_|refine zB ?_|refine zb ?_|refine zc ?_|refine ze ?_|refine zd ?_|refine zC ?_|refine zD ?_|refine zE ?_|refine zF ?_|refine zG ?_|refine zH ?_|refine zI ?_|refine zJ ?_|refine zK ?_|refine zL ?_|refine zM ?_|refine zN ?_|refine zO ?_|refine zP ?_|refine zQ ?_|refine zR ?_|refine zS ?_|refine zU ?_|refine zV ?_|refine zW ?_|refine zt (fun hcd => ?_) (fun hcd => ?_)|refine zu (fun hcd => ?_) (fun hcd => ?_)|refine zX ?_|refine zY ?_|refine zv (fun hcd => ?_) (fun hcd => ?_)|refine zk ?_|refine zl ?_|refine zm ?_|refine zn ?_|refine zf ?_|refine zg ?_|refine zj ?_|refine zZ ?_|refine zh ?_|refine zi ?_|refine zo ?_|refine zp ?_|refine zq ?_|refine zr ?_|refine zs ?_)
        refine ⟨j + 1, v', M ++ [z.text], ⟨rfl, rfl, trivial⟩, ⟨by omega, Ch.ext_new hE45 hC (Nat.le_refl _), hS5.keep hC2 fun g h1 h2 => ?_, by omega, OwnS.of (by rw [strs, List.map_append]; exact g1), fun g hg => ?_, fun s => ?_, by simp; omega⟩, by omega⟩
        · have := b4 g h1
          rcases hbM g h2 with h | h <;> omega
        · rcases g4 g hg with h | h
          · exact hbM g h
          · right; omega
        · rw [List.mem_append, List.mem_singleton, hMm, hup]
          constructor
          · rintro ((h | h) | rfl)
            · exact .inl h
            · exact .inr (.inl h)
            · exact .inr (.inr ⟨rfl, hzy⟩)
          · rintro (h | h | ⟨rfl, _⟩)
            · exact .inl (.inl h)
            · exact .inl (.inr h)
            · exact .inr rfl
      · repeat' (first|refine za ?_|refine zA ?_|refine zB ?_|refine zb ?_|refine zc ?_|refine ze ?_|refine zd ?_|refine zC ?_|refine zD ?_|refine zE ?_|refine zF ?_|refine zG ?_|refine zH ?_|refine zI ?_|refine zJ ?_|refine zK ?_|refine zL ?_|refine zM ?_|refine zN ?_|refine zO ?_|refine zP ?_|refine zQ ?_|refine zR ?_|refine zS ?_|refine zU ?_|refine zV ?_|refine zW ?_|refine zt (fun hcd => ?_) (fun hcd => ?_)|refine zu (fun hcd => ?_) (fun hcd => ?_)|refine zX ?_|refine zY ?_|refine zv (fun hcd => ?_) (fun hcd => ?_)|refine zk ?_|refine zl ?_|refine zm ?_|refine zn ?_|refine zf ?_|refine zg ?_|refine zj ?_|refine zZ ?_|refine zh ?_|refine zi ?_|refine zo ?_|refine zp ?_|refine zq ?_|refine zr ?_|refine zs ?_)
        (refine r_call (R := ?_) rfl ?_ ?_; rotate_left 1; focus exact belowRb_any z y false wj (by omega) (by omega) (decide_eq_false hzy))
        rintro v5 w5 ⟨rfl, hE5⟩
        have z5 := Ext.size hE5
        repeat' (first|refine za ?_|refine zA ?_|refine zB ?_|refine zb ?_|refine zc ?_|refine ze ?_|refine zd ?_|refine zC ?_|refine zD ?_|refine zE ?_|refine zF ?_|refine zG ?_|refine zH ?_|refine zI ?_|refine zJ ?_|refine zK ?_|refine zL ?_|refine zM ?_|refine zN ?_|refine zO ?_|refine zP ?_|refine zQ ?_|refine zR ?_|refine zS ?_|refine zU ?_|refine zV ?_|refine zW ?_|refine zt (fun hcd => ?_) (fun hcd => ?_)|refine zu (fun hcd => ?_) (fun hcd => ?_)|refine zX ?_|refine zY ?_|refine zv (fun hcd => ?_) (fun hcd => ?_)|refine zk ?_|refine zl ?_|refine zm ?_|refine zn ?_|refine zf ?_|refine zg ?_|refine zj ?_|refine zZ ?_|refine zh ?_|refine zi ?_|refine zo ?_|refine zp ?_|refine zq ?_|refine zr ?_|refine zs ?_)
        refine ⟨j + 1, .slice qm M.length cm, M, ⟨rfl, rfl, trivial⟩, ⟨by omega, hEj.trans hE5, hSj.ext hE5, by omega, OwnS.ext hM hE5, hbM, fun s => ?_, by omega⟩, by omega⟩
        rw [hMm, hup]
        constructor
        · rintro (h | h)
          · exact .inl h
          · exact .inr (.inl h)
        · rintro (h | h | ⟨_, h⟩)
          · exact .inl h
          · exact .inr h
          · exact absurd h hzy
    · obtain rfl : j = A.length := by omega
      rw [List.take_length] at hMm
      repeat' (first|refine za ?_|refine zA ?_|refine zB ?_|refine zb ?_|refine zc ?_|refine ze ?_|refine zd ?_|refine zC ?_|refine zD ?_|refine zE ?_|refine zF ?_|refine zG ?_|refine zH ?_|refine zI ?_|refine zJ ?_|refine zK ?_|refine zL ?_|refine zM ?_|refine zN ?_|refine zO ?_|refine zP ?_|refine zQ ?_|refine zR ?_|refine zS ?_|refine zU ?_|refine zV ?_|refine zW ?_|refine zt (fun hcd => ?_) (fun hcd => ?_)|refine zu (fun hcd => ?_) (fun hcd => ?_)|refine zX ?_|refine zY ?_|refine zv (fun hcd => ?_) (fun hcd => ?_)|refine zk ?_|refine zl ?_|refine zm ?_|refine zn ?_|refine zf ?_|refine zg ?_|refine zj ?_|refine zZ ?_|refine zh ?_|refine zi ?_|refine zo ?_|refine zp ?_|refine zq ?_|refine zr ?_|refine zs ?_)
      refine ⟨i + 1, .slice qm M.length cm, M, mm, ⟨rfl, rfl, rfl, trivial⟩, ⟨by omega, hEj, hM, fun s => ?_, by omega, hAm.1, hAm.2⟩, by omega⟩
      rw [hMm, hNx s, htk]
      constructor
      · rintro (⟨t', h1, h2⟩ | ⟨_, h2⟩)
        · exact ⟨t', List.mem_append_left _ h1, h2⟩
        · exact ⟨t, List.mem_append_right _ (by simp), h2⟩
      · rintro ⟨t', h1, z, h2, h3, h4⟩
        rcases List.mem_append.1 h1 with h1 | h1
        · exact .inl ⟨t', h1, z, h2, h3, h4⟩
        · rw [List.mem_singleton] at h1
          subst h1
          exact .inr ⟨(hmemA s).2 ⟨z, h2, h4⟩, z, h2, h3, h4⟩
  · obtain rfl : i = Q.length := by omega
    rw [List.take_length] at hm1 hm2
    have hyQ := hL.mem y
    repeat' (first|refine za ?_|refine zA ?_|refine zB ?_|refine zb ?_|refine zc ?_|refine ze ?_|refine zd ?_|refine zC ?_|refine zD ?_|refine zE ?_|refine zF ?_|refine zG ?_|refine zH ?_|refine zI ?_|refine zJ ?_|refine zK ?_|refine zL ?_|refine zM ?_|refine zN ?_|refine zO ?_|refine zP ?_|refine zQ ?_|refine zR ?_|refine zS ?_|refine zU ?_|refine zV ?_|refine zW ?_|refine zt (fun hcd => ?_) (fun hcd => ?_)|refine zu (fun hcd => ?_) (fun hcd => ?_)|refine zX ?_|refine zY ?_|refine zv (fun hcd => ?_) (fun hcd => ?_)|refine zk ?_|refine zl ?_|refine zm ?_|refine zn ?_|refine zf ?_|refine zg ?_|refine zj ?_|refine zZ ?_|refine zh ?_|refine zi ?_|refine zo ?_|refine zp ?_|refine zq ?_|refine zr ?_|refine zs ?_)
    (refine r_call (R := ?_) rfl ?_ ?_; rotate_left 1; focus exact sorted_any N.length (.slice qn N.length cn) N wi (Nat.le_refl _) (by omega) hN.strs)
    rintro v4 w4 ⟨hS4, _, hE4⟩
    have hsl := sortP_len N
    have hsm : ∀ s, s ∈ sortP N ↔ s ∈ N := fun s => sortP_mem
    have hss := sortP_sorted N
    generalize sortP N = Z at *
    obtain ⟨q4, c4, e4, _⟩ := hS4.slice
    subst e4
    repeat' (first|refine za ?_|refine zA ?_|refine zB ?_|refine zb ?_|refine zc ?_|refine ze ?_|refine zd ?_|refine zC ?_|refine zD ?_|refine zE ?_|refine zF ?_|refine zG ?_|refine zH ?_|refine zI ?_|refine zJ ?_|refine zK ?_|refine zL ?_|refine zM ?_|refine zN ?_|refine zO ?_|refine zP ?_|refine zQ ?_|refine zR ?_|refine zS ?_|refine zU ?_|refine zV ?_|refine zW ?_|refine zt (fun hcd => ?_) (fun hcd => ?_)|refine zu (fun hcd => ?_) (fun hcd => ?_)|refine zX ?_|refine zY ?_|refine zv (fun hcd => ?_) (fun hcd => ?_)|refine zk ?_|refine zl ?_|refine zm ?_|refine zn ?_|refine zf ?_|refine zg ?_|refine zj ?_|refine zZ ?_|refine zh ?_|refine zi ?_|refine zo ?_|refine zp ?_|refine zq ?_|refine zr ?_|refine zs ?_)
    (refine r_call (R := ?_) rfl ?_ ?_; rotate_left 1; focus exact unique_any (.slice q4 Z.length c4) Z w4 hS4 hss (by omega))
    rintro v5 w5 ⟨X, hO5, hU, hE5⟩
    have hXm : ∀ s, s ∈ X ↔ s ∈ N := fun s => by rw [hU.mem s, List.take_length, hsm]
    obtain ⟨Q', hQ', hL'⟩ := hL.next hNx hXm hU.nod
    subst hQ'
    have hEn := hE.trans (hEi.trans (hE4.trans hE5))
    repeat' (first|refine za ?_|refine zA ?_|refine zB ?_|refine zb ?_|refine zc ?_|refine ze ?_|refine zd ?_|refine zC ?_|refine zD ?_|refine zE ?_|refine zF ?_|refine zG ?_|refine zH ?_|refine zI ?_|refine zJ ?_|refine zK ?_|refine zL ?_|refine zM ?_|refine zN ?_|refine zO ?_|refine zP ?_|refine zQ ?_|refine zR ?_|refine zS ?_|refine zU ?_|refine zV ?_|refine zW ?_|refine zt (fun hcd => ?_) (fun hcd => ?_)|refine zu (fun hcd => ?_) (fun hcd => ?_)|refine zX ?_|refine zY ?_|refine zv (fun hcd => ?_) (fun hcd => ?_)|refine zk ?_|refine zl ?_|refine zm ?_|refine zn ?_|refine zf ?_|refine zg ?_|refine zj ?_|refine zZ ?_|refine zh ?_|refine zi ?_|refine zo ?_|refine zp ?_|refine zq ?_|refine zr ?_|refine zs ?_)
    refine ⟨d + 1, v5, Q', m', ⟨?_, rfl, rfl, trivial⟩, ⟨hEn, hO5.strs, hL', fun k hk hu => ?_, ?_, by omega⟩, by omega⟩
    · show Value.int .i64 _ = Value.int .i64 _
      congr 1
    · by_cases hy : y ∈ Q
      · rw [hm1 hy]; omega
      · rw [hm2 hy]
        by_cases hkd : k = d
        · subst hkd
          exact absurd (hyQ.2 ⟨hu, le_refl y⟩) hy
        · exact hall k (by omega) hu
    · by_cases hy : y ∈ Q
      · left; rw [hm1 hy]; exact (hyQ.1 hy).1
      · rw [hm2 hy]
        rcases hex with h | ⟨h1, h2⟩
        · exact .inl h
        · refine .inr ⟨h1, fun k hk hu => ?_⟩
          by_cases hkd : k = d
          · subst hkd
            exact hy (hyQ.2 ⟨hu, le_refl y⟩)
          · exact h2 k (by omega) hu
end Go.Proofs.Ytkdakleckdkhiaa
