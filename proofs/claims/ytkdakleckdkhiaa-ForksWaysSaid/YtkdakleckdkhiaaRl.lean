/- forks: the reference's All. -/
import Derived.Test.YtkdakleckdkhiaaRa
namespace Go.Proofs.Ytkdakleckdkhiaa
open Gv
set_option maxRecDepth 20000 in
set_option maxHeartbeats 8000000 in
theorem allR_any (n : Nat) (w : World) (hn : n ≤ 10) : Calls Try.prog 43 #[.int .i64 (n : Int)] w (Ret fun v w' => Strs w' v (allS n) ∧ Ext w w') := by
  refine calls_of_wc (args := [.int .i64 (n : Int)]) Try.func43 rfl ?_ ?_; kernel_rfl
  repeat' (first|refine za ?_|refine zA ?_|refine zB ?_|refine zb ?_|refine zc ?_|refine ze ?_|refine zd ?_|refine zC ?_|refine zD ?_|refine zE ?_|refine zF ?_|refine zG ?_|refine zH ?_|refine zI ?_|refine zJ ?_|refine zK ?_|refine zL ?_|refine zM ?_|refine zN ?_|refine zO ?_|refine zP ?_|refine zQ ?_|refine zR ?_|refine zS ?_|refine zU ?_|refine zV ?_|refine zW ?_|refine zt (fun hcd => ?_) (fun hcd => ?_)|refine zu (fun hcd => ?_) (fun hcd => ?_)|refine zX ?_|refine zY ?_|refine zv (fun hcd => ?_) (fun hcd => ?_)|refine zk ?_|refine zl ?_|refine zm ?_|refine zn ?_|refine zf ?_|refine zg ?_|refine zj ?_|refine zZ ?_|refine zh ?_|refine zi ?_|refine zo ?_|refine zp ?_|refine zq ?_|refine zr ?_|refine zs ?_)
  refine r_buildS1 (u := str [46]) el32 rfl rfl fun wa hOa hEa hsa => ?_
  repeat' (first|refine za ?_|refine zA ?_|refine zB ?_|refine zb ?_|refine zc ?_|refine ze ?_|refine zd ?_|refine zC ?_|refine zD ?_|refine zE ?_|refine zF ?_|refine zG ?_|refine zH ?_|refine zI ?_|refine zJ ?_|refine zK ?_|refine zL ?_|refine zM ?_|refine zN ?_|refine zO ?_|refine zP ?_|refine zQ ?_|refine zR ?_|refine zS ?_|refine zU ?_|refine zV ?_|refine zW ?_|refine zt (fun hcd => ?_) (fun hcd => ?_)|refine zu (fun hcd => ?_) (fun hcd => ?_)|refine zX ?_|refine zY ?_|refine zv (fun hcd => ?_) (fun hcd => ?_)|refine zk ?_|refine zl ?_|refine zm ?_|refine zn ?_|refine zf ?_|refine zg ?_|refine zj ?_|refine zZ ?_|refine zh ?_|refine zi ?_|refine zo ?_|refine zp ?_|refine zq ?_|refine zr ?_|refine zs ?_)
  refine r_buildS1 (u := .slice (some ⟨w.heap.size, 0, none⟩) 1 1) el104 rfl rfl fun wb hOb hEb hsb => ?_
  repeat' (first|refine za ?_|refine zA ?_|refine zB ?_|refine zb ?_|refine zc ?_|refine ze ?_|refine zd ?_|refine zC ?_|refine zD ?_|refine zE ?_|refine zF ?_|refine zG ?_|refine zH ?_|refine zI ?_|refine zJ ?_|refine zK ?_|refine zL ?_|refine zM ?_|refine zN ?_|refine zO ?_|refine zP ?_|refine zQ ?_|refine zR ?_|refine zS ?_|refine zU ?_|refine zV ?_|refine zW ?_|refine zt (fun hcd => ?_) (fun hcd => ?_)|refine zu (fun hcd => ?_) (fun hcd => ?_)|refine zX ?_|refine zY ?_|refine zv (fun hcd => ?_) (fun hcd => ?_)|refine zk ?_|refine zl ?_|refine zm ?_|refine zn ?_|refine zf ?_|refine zg ?_|refine zj ?_|refine zZ ?_|refine zh ?_|refine zi ?_|refine zo ?_|refine zp ?_|refine zq ?_|refine zr ?_|refine zs ?_)
  refine wc_loop2 [0] (fun (k : Nat) (vt : Value) => [(4, .int .i64 ((k : Int) + 1)), (3, vt)]) (fun k vt wk => k ≤ n ∧ Ext w wk ∧ TabF wk w.heap.size wk.heap.size vt (al k)) (fun k _ => n - k) 0 (.slice (some ⟨wa.heap.size, 0, none⟩) 1 1) rfl ⟨rfl, rfl, trivial⟩ ⟨by omega, hEa.trans hEb, al_one w wa wb hOa hOb hsa hEb⟩ ?_
  rintro k vt wk x ⟨hk, hE, hT⟩
  obtain ⟨qt, ct, rfl, hct⟩ := hT.slice
  have hal := al_len k
  have hps := hT.isSome (by omega)
  by_cases hkn : k < n
  rotate_left 1
  · obtain rfl : k = n := by omega
    obtain ⟨q, m, hr, hS⟩ := hT.rd0 (i := k) (j := (k : Int)) (by omega) rfl
    rw [al_get (Nat.le_refl _)] at hr hS
    obtain ⟨L, hL⟩ : ∃ L, L = allS k := ⟨_, rfl⟩
    rw [← hL] at hr hS
    repeat' (first|refine za ?_|refine zA ?_|refine zB ?_|refine zb ?_|refine zc ?_|refine ze ?_|refine zd ?_|refine zC ?_|refine zD ?_|refine zE ?_|refine zF ?_|refine zG ?_|refine zH ?_|refine zI ?_|refine zJ ?_|refine zK ?_|refine zL ?_|refine zM ?_|refine zN ?_|refine zO ?_|refine zP ?_|refine zQ ?_|refine zR ?_|refine zS ?_|refine zU ?_|refine zV ?_|refine zW ?_|refine zt (fun hcd => ?_) (fun hcd => ?_)|refine zu (fun hcd => ?_) (fun hcd => ?_)|refine zX ?_|refine zY ?_|refine zv (fun hcd => ?_) (fun hcd => ?_)|refine zk ?_|refine zl ?_|refine zm ?_|refine zn ?_|refine zf ?_|refine zg ?_|refine zj ?_|refine zZ ?_|refine zh ?_|refine zi ?_|refine zo ?_|refine zp ?_|refine zq ?_|refine zr ?_|refine zs ?_)
    refine post1 (v := .slice q L.length m) rfl rfl ?_
    rw [← hL]
    exact ⟨hS, hE⟩
  repeat' (first|refine za ?_|refine zA ?_|refine zB ?_|refine zb ?_|refine zc ?_|refine ze ?_|refine zd ?_|refine zC ?_|refine zD ?_|refine zE ?_|refine zF ?_|refine zG ?_|refine zH ?_|refine zI ?_|refine zJ ?_|refine zK ?_|refine zL ?_|refine zM ?_|refine zN ?_|refine zO ?_|refine zP ?_|refine zQ ?_|refine zR ?_|refine zS ?_|refine zU ?_|refine zV ?_|refine zW ?_|refine zt (fun hcd => ?_) (fun hcd => ?_)|refine zu (fun hcd => ?_) (fun hcd => ?_)|refine zX ?_|refine zY ?_|refine zv (fun hcd => ?_) (fun hcd => ?_)|refine zk ?_|refine zl ?_|refine zm ?_|refine zn ?_|refine zf ?_|refine zg ?_|refine zj ?_|refine zZ ?_|refine zh ?_|refine zi ?_|refine zo ?_|refine zp ?_|refine zq ?_|refine zr ?_|refine zs ?_)
  refine wc_loop2 [0, 3, 4] (fun (j : Nat) (vo : Value) => [(6, .int .i64 j), (5, vo)]) (fun j vo wj => j ≤ k + 1 ∧ Ext wk wj ∧ OwnS wj wk.heap.size vo (preS (al k) k j)) (fun j _ => k + 1 - j) 0 (.slice none 0 0) rfl ⟨rfl, rfl, trivial⟩ ⟨by omega, Ext.refl _, World.ownsRow_nil _ _ _ _⟩ ?_
  rintro j vo wj x2 ⟨hj, hEj, hO⟩
  have hpb := preS_bnd (m := k) (k := j) (by omega) hj
  by_cases hjk : j < k + 1
  · obtain ⟨qa, ma, hra, hSa⟩ := hT.rd0 (i := j) (j := (j : Int)) (by omega) rfl
    obtain ⟨qb, mb, hrb, hSb⟩ := hT.rd0 (i := k - j) (j := (k : Int) + 1 - 1 - j) (by omega) (by omega)
    have hla := al_row_len (k := k) (j := j) (by omega)
    have hlb := al_row_len (k := k) (j := k - j) (by omega)
    have hta := fun i => al_row_text (k := k) (j := j) (i := i) (by omega)
    have htb := fun i => al_row_text (k := k) (j := k - j) (i := i) (by omega)
    have hps1 := preS_succ (al k) k j
    generalize (al k).getD j [] = A at *
    generalize (al k).getD (k - j) [] = B at *
    generalize preS (al k) k j = Z at *
    obtain ⟨qz, cz, ez, _⟩ := hO.strs.slice
    subst ez
    repeat' (first|refine za ?_|refine zA ?_|refine zB ?_|refine zb ?_|refine zc ?_|refine ze ?_|refine zd ?_|refine zC ?_|refine zD ?_|refine zE ?_|refine zF ?_|refine zG ?_|refine zH ?_|refine zI ?_|refine zJ ?_|refine zK ?_|refine zL ?_|refine zM ?_|refine zN ?_|refine zO ?_|refine zP ?_|refine zQ ?_|refine zR ?_|refine zS ?_|refine zU ?_|refine zV ?_|refine zW ?_|refine zt (fun hcd => ?_) (fun hcd => ?_)|refine zu (fun hcd => ?_) (fun hcd => ?_)|refine zX ?_|refine zY ?_|refine zv (fun hcd => ?_) (fun hcd => ?_)|refine zk ?_|refine zl ?_|refine zm ?_|refine zn ?_|refine zf ?_|refine zg ?_|refine zj ?_|refine zZ ?_|refine zh ?_|refine zi ?_|refine zo ?_|refine zp ?_|refine zq ?_|refine zr ?_|refine zs ?_)
    refine wc_loop2 [0, 3, 4, 6] (fun (i : Nat) (vo : Value) => [(7, .int .i64 i), (5, vo)]) (fun i vo wi => i ≤ A.length ∧ Ext wk wi ∧ OwnS wi wk.heap.size vo (Z ++ blkS (A.take i) B)) (fun i _ => A.length - i) 0 (.slice qz Z.length cz) rfl ⟨rfl, rfl, trivial⟩ ⟨by omega, hEj, by simpa [blkS] using hO⟩ ?_
    rintro i vo wi x3 ⟨hi, hEi, hO⟩
    obtain ⟨Y, hY⟩ : ∃ Y, Y = Z ++ blkS (A.take i) B := ⟨_, rfl⟩
    have hO2 := hO
    rw [← hY] at hO2
    obtain ⟨qy, cy, ey, _⟩ := hO2.strs.slice
    subst ey
    have hrai := rd_ext hra hEi
    by_cases hiA : i < A.length
    · have hpa := hSa.isSome (by omega)
      have htai := hta i hiA
      have hbs := blkS_take (B := B) hiA
      have haa := fun w' (hw' : Ext wk w') => strs_get0 (hSa.ext hw') hiA (j := (i : Int)) rfl
      generalize A.getD i [] = a at *
      repeat' (first|refine za ?_|refine zA ?_|refine zB ?_|refine zb ?_|refine zc ?_|refine ze ?_|refine zd ?_|refine zC ?_|refine zD ?_|refine zE ?_|refine zF ?_|refine zG ?_|refine zH ?_|refine zI ?_|refine zJ ?_|refine zK ?_|refine zL ?_|refine zM ?_|refine zN ?_|refine zO ?_|refine zP ?_|refine zQ ?_|refine zR ?_|refine zS ?_|refine zU ?_|refine zV ?_|refine zW ?_|refine zt (fun hcd => ?_) (fun hcd => ?_)|refine zu (fun hcd => ?_) (fun hcd => ?_)|refine zX ?_|refine zY ?_|refine zv (fun hcd => ?_) (fun hcd => ?_)|refine zk ?_|refine zl ?_|refine zm ?_|refine zn ?_|refine zf ?_|refine zg ?_|refine zj ?_|refine zZ ?_|refine zh ?_|refine zi ?_|refine zo ?_|refine zp ?_|refine zq ?_|refine zr ?_|refine zs ?_)
      refine wc_loop2 [0, 3, 4, 6, 7] (fun (p : Nat) (vo : Value) => [(8, .int .i64 p), (5, vo)]) (fun p vo wp => p ≤ B.length ∧ Ext wk wp ∧ OwnS wp wk.heap.size vo (Z ++ blkS (A.take i) B ++ rowS a (B.take p))) (fun p _ => B.length - p) 0 (.slice qy Y.length cy) rfl ⟨rfl, rfl, trivial⟩ ⟨by omega, hEi, by simpa [rowS] using hO⟩ ?_
      rintro p vo wp x4 ⟨hp, hEp, hO⟩
      have hbb := blk_bnd (l := a) (i := i) (p := p) hpb hla hlb
      obtain ⟨X, hX⟩ : ∃ X, X = Z ++ blkS (A.take i) B ++ rowS a (B.take p) := ⟨_, rfl⟩
      have hO3 := hO
      rw [← hX] at hO3 hbb
      obtain ⟨qx, cx, ex, _⟩ := hO3.strs.slice
      subst ex
      have hrbp := rd_ext hrb hEp
      by_cases hpB : p < B.length
      · have hpb2 := hSb.isSome (by omega)
        have htbp := htb p hpB
        have hrs := rowS_take (l := a) hpB
        have hbb2 := fun w' (hw' : Ext wk w') => strs_get0 (hSb.ext hw') hpB (j := (p : Int)) rfl
        generalize B.getD p [] = b at *
        have hEd := hEp.trans (Ext.drew wp)
        repeat' (first|refine za ?_|refine zA ?_|refine zB ?_|refine zb ?_|refine zc ?_|refine ze ?_|refine zd ?_|refine zC ?_|refine zD ?_|refine zE ?_|refine zF ?_|refine zG ?_|refine zH ?_|refine zI ?_|refine zJ ?_|refine zK ?_|refine zL ?_|refine zM ?_|refine zN ?_|refine zO ?_|refine zP ?_|refine zQ ?_|refine zR ?_|refine zS ?_|refine zU ?_|refine zV ?_|refine zW ?_|refine zt (fun hcd => ?_) (fun hcd => ?_)|refine zu (fun hcd => ?_) (fun hcd => ?_)|refine zX ?_|refine zY ?_|refine zv (fun hcd => ?_) (fun hcd => ?_)|refine zk ?_|refine zl ?_|refine zm ?_|refine zn ?_|refine zf ?_|refine zg ?_|refine zj ?_|refine zZ ?_|refine zh ?_|refine zi ?_|refine zo ?_|refine zp ?_|refine zq ?_|refine zr ?_|refine zs ?_)
        refine wc_heldB (fun w' => Ext wk w') (.take 0 (.take 1 (.take 2 (.take 3 (.take 4 (.take 5 (.take 6 (.take 7 (.take 8 (.take 9 (.take 10 (.take 11 (.take 12 (.take 13 (.take 14 (.take 15 (.take 16 (.take 17 (.take 18 (.take 19 (.take 20 (.one 21 (.one 22 (.one 23 .done)))))))))))))))))))))))) (by kernel_rfl) (by kernel_rfl) hEd ?_
        refine whB_take (v := .slice qx X.length cx) rfl rfl (fun w' hw' => rv_move_v rfl) ?_
        refine whB_take (v := .slice qt (al k).length ct) rfl rfl (fun w' hw' => rv_move_v rfl) ?_
        refine whB_take (v := .int .i64 j) rfl rfl (fun w' hw' => rv_move_v rfl) ?_
        refine whB_take rfl rfl (fun w' hw' => rv_idx (sz := 1) rfl rfl rfl hps (by omega) (by omega)) ?_
        refine whB_take (v := .slice qa A.length ma) rfl rfl (fun w' hw' => rv_ld rfl rfl (rd_ext hra hw')) ?_
        refine whB_take (v := .int .i64 i) rfl rfl (fun w' hw' => rv_move_v rfl) ?_
        refine whB_take rfl rfl (fun w' hw' => rv_idx (sz := 1) rfl rfl rfl hpa (by omega) (by omega)) ?_
        refine whB_take (v := str a) rfl rfl (fun w' hw' => rv_ld rfl rfl (haa w' hw')) ?_
        refine whB_take (v := str ([40] ++ a)) rfl rfl (fun w' hw' => rv_of rfl (fun _ h => r_sadd (a := [40]) (b := a) rfl rfl (by simp; omega) h) fun _ _ h => val_of h) ?_
        refine whB_take (v := .slice qt (al k).length ct) rfl rfl (fun w' hw' => rv_move_v rfl) ?_
        refine whB_take (v := .int .i64 ((k : Int) + 1)) rfl rfl (fun w' hw' => rv_move_v rfl) ?_
        refine whB_take (v := .int .i64 ((k : Int) + 1 - 1)) rfl rfl (fun w' hw' => rv_of rfl (fun _ h => r_sub_in rfl rfl (by omega) h) fun _ _ h => val_of h) ?_
        refine whB_take (v := .int .i64 j) rfl rfl (fun w' hw' => rv_move_v rfl) ?_
        refine whB_take (v := .int .i64 ((k : Int) + 1 - 1 - j)) rfl rfl (fun w' hw' => rv_of rfl (fun _ h => r_sub_in rfl rfl (by omega) h) fun _ _ h => val_of h) ?_
        refine whB_take rfl rfl (fun w' hw' => rv_idx (sz := 1) rfl rfl rfl hps (by omega) (by omega)) ?_
        refine whB_take (v := .slice qb B.length mb) rfl rfl (fun w' hw' => rv_ld rfl rfl (rd_ext hrb hw')) ?_
        refine whB_take (v := .int .i64 p) rfl rfl (fun w' hw' => rv_move_v rfl) ?_
        refine whB_take rfl rfl (fun w' hw' => rv_idx (sz := 1) rfl rfl rfl hpb2 (by omega) (by omega)) ?_
        refine whB_take (v := str b) rfl rfl (fun w' hw' => rv_ld rfl rfl (hbb2 w' hw')) ?_
        refine whB_take (v := str ([40] ++ a ++ b)) rfl rfl (fun w' hw' => rv_of rfl (fun _ h => r_sadd (a := [40] ++ a) (b := b) rfl rfl (by simp; omega) h) fun _ _ h => val_of h) ?_
        refine whB_take (v := str ([40] ++ a ++ b ++ [41])) rfl rfl (fun w' hw' => rv_of rfl (fun _ h => r_sadd (a := [40] ++ a ++ b) (b := [41]) rfl rfl (by simp; omega) h) fun _ _ h => val_of h) ?_
        refine whB_one rfl rfl ?_
        refine r_buildS1 (u := str ([40] ++ a ++ b ++ [41])) el32 rfl rfl fun w5 hO5 hE5 hs5 => ?_
        have hO3' : OwnS w5 wk.heap.size (.slice qx X.length cx) X := OwnS.ext (OwnS.ext hO3 (Ext.drew wp)) hE5
        have hEd5 := hEd.trans hE5
        refine ⟨hEd5, ?_⟩
        refine whB_one rfl rfl ?_
        refine r_append (base := wk.heap.size) el32 rfl (by decide) (by decide) hO3' (Gv.Own.sl hO5) rfl rfl (by intro z hz; rw [List.mem_singleton] at hz; subst hz; rfl) (by simp; omega) hEd5.size ?_
        intro v6 w6 hO6 hg6 _ _
        have hC6 : Ch (fun g => wk.heap.size ≤ g) w5 w6 := Ch.grown hg6 fun g hg => (World.ownsRow.lt hO3' g hg).1
        have hE6 : Ext wk w6 := Ch.ext_new hEd5 hC6 (Nat.le_refl _)
        refine ⟨hE6, ?_⟩
        refine whB_one rfl rfl ?_
        refine r_assign_v (v := v6) rfl ?_
        refine ⟨hE6, whB_done ?_⟩
        repeat' (first|refine za ?_|refine zA ?_|refine zB ?_|refine zb ?_|refine zc ?_|refine ze ?_|refine zd ?_|refine zC ?_|refine zD ?_|refine zE ?_|refine zF ?_|refine zG ?_|refine zH ?_|refine zI ?_|refine zJ ?_|refine zK ?_|refine zL ?_|refine zM ?_|refine zN ?_|refine zO ?_|refine zP ?_|refine zQ ?_|refine zR ?_|refine zS ?_|refine zU ?_|refine zV ?_|refine zW ?_|refine zt (fun hcd => ?_) (fun hcd => ?_)|refine zu (fun hcd => ?_) (fun hcd => ?_)|refine zX ?_|refine zY ?_|refine zv (fun hcd => ?_) (fun hcd => ?_)|refine zk ?_|refine zl ?_|refine zm ?_|refine zn ?_|refine zf ?_|refine zg ?_|refine zj ?_|refine zZ ?_|refine zh ?_|refine zi ?_|refine zo ?_|refine zp ?_|refine zq ?_|refine zr ?_|refine zs ?_)
        refine ⟨p + 1, v6, ⟨rfl, rfl, trivial⟩, ⟨by omega, hE6, ?_⟩, by omega⟩
        refine OwnS.of ?_
        rw [hrs, ← List.append_assoc, ← hX, strs, List.map_append]
        simpa [Gv.Own] using hO6
      · obtain rfl : p = B.length := by omega
        rw [List.take_length] at hO
        repeat' (first|refine za ?_|refine zA ?_|refine zB ?_|refine zb ?_|refine zc ?_|refine ze ?_|refine zd ?_|refine zC ?_|refine zD ?_|refine zE ?_|refine zF ?_|refine zG ?_|refine zH ?_|refine zI ?_|refine zJ ?_|refine zK ?_|refine zL ?_|refine zM ?_|refine zN ?_|refine zO ?_|refine zP ?_|refine zQ ?_|refine zR ?_|refine zS ?_|refine zU ?_|refine zV ?_|refine zW ?_|refine zt (fun hcd => ?_) (fun hcd => ?_)|refine zu (fun hcd => ?_) (fun hcd => ?_)|refine zX ?_|refine zY ?_|refine zv (fun hcd => ?_) (fun hcd => ?_)|refine zk ?_|refine zl ?_|refine zm ?_|refine zn ?_|refine zf ?_|refine zg ?_|refine zj ?_|refine zZ ?_|refine zh ?_|refine zi ?_|refine zo ?_|refine zp ?_|refine zq ?_|refine zr ?_|refine zs ?_)
        refine ⟨i + 1, .slice qx X.length cx, ⟨rfl, rfl, trivial⟩, ⟨by omega, hEp, ?_⟩, by omega⟩
        rw [hbs, ← List.append_assoc]
        exact hO
    · obtain rfl : i = A.length := by omega
      rw [List.take_length] at hO
      repeat' (first|refine za ?_|refine zA ?_|refine zB ?_|refine zb ?_|refine zc ?_|refine ze ?_|refine zd ?_|refine zC ?_|refine zD ?_|refine zE ?_|refine zF ?_|refine zG ?_|refine zH ?_|refine zI ?_|refine zJ ?_|refine zK ?_|refine zL ?_|refine zM ?_|refine zN ?_|refine zO ?_|refine zP ?_|refine zQ ?_|refine zR ?_|refine zS ?_|refine zU ?_|refine zV ?_|refine zW ?_|refine zt (fun hcd => ?_) (fun hcd => ?_)|refine zu (fun hcd => ?_) (fun hcd => ?_)|refine zX ?_|refine zY ?_|refine zv (fun hcd => ?_) (fun hcd => ?_)|refine zk ?_|refine zl ?_|refine zm ?_|refine zn ?_|refine zf ?_|refine zg ?_|refine zj ?_|refine zZ ?_|refine zh ?_|refine zi ?_|refine zo ?_|refine zp ?_|refine zq ?_|refine zr ?_|refine zs ?_)
      refine ⟨j + 1, .slice qy Y.length cy, ⟨rfl, rfl, trivial⟩, ⟨by omega, hEi, ?_⟩, by omega⟩
      rw [hps1]
      exact hO
  · obtain rfl : j = k + 1 := by omega
    have hsucc : al (k + 1) = al k ++ [sortP (preS (al k) k (k + 1))] := rfl
    generalize preS (al k) k (k + 1) = Z at *
    obtain ⟨qz, cz, ez, _⟩ := hO.strs.slice
    subst ez
    repeat' (first|refine za ?_|refine zA ?_|refine zB ?_|refine zb ?_|refine zc ?_|refine ze ?_|refine zd ?_|refine zC ?_|refine zD ?_|refine zE ?_|refine zF ?_|refine zG ?_|refine zH ?_|refine zI ?_|refine zJ ?_|refine zK ?_|refine zL ?_|refine zM ?_|refine zN ?_|refine zO ?_|refine zP ?_|refine zQ ?_|refine zR ?_|refine zS ?_|refine zU ?_|refine zV ?_|refine zW ?_|refine zt (fun hcd => ?_) (fun hcd => ?_)|refine zu (fun hcd => ?_) (fun hcd => ?_)|refine zX ?_|refine zY ?_|refine zv (fun hcd => ?_) (fun hcd => ?_)|refine zk ?_|refine zl ?_|refine zm ?_|refine zn ?_|refine zf ?_|refine zg ?_|refine zj ?_|refine zZ ?_|refine zh ?_|refine zi ?_|refine zo ?_|refine zp ?_|refine zq ?_|refine zr ?_|refine zs ?_)
    (refine r_call (R := ?_) rfl ?_ ?_; rotate_left 1; focus exact sorted_any _ (.slice qz Z.length cz) Z wj (Nat.le_refl _) (by omega) hO.strs)
    rintro v5 w5 ⟨hS5, hb5, hE5⟩
    have hE05 := hEj.trans hE5
    obtain ⟨rows, hOr, hrl, hpush⟩ := (hT.ext hE05).push hS5 (fun g hg => by
      rcases hb5 g hg with h | h
      · have := World.ownsRow.lt hO g h
        have := Ext.size hE5
        omega
      · have := Ext.size hEj
        omega) hE05.size
    obtain ⟨q5, c5, e5, _⟩ := hS5.slice
    subst e5
    repeat' (first|refine za ?_|refine zA ?_|refine zB ?_|refine zb ?_|refine zc ?_|refine ze ?_|refine zd ?_|refine zC ?_|refine zD ?_|refine zE ?_|refine zF ?_|refine zG ?_|refine zH ?_|refine zI ?_|refine zJ ?_|refine zK ?_|refine zL ?_|refine zM ?_|refine zN ?_|refine zO ?_|refine zP ?_|refine zQ ?_|refine zR ?_|refine zS ?_|refine zU ?_|refine zV ?_|refine zW ?_|refine zt (fun hcd => ?_) (fun hcd => ?_)|refine zu (fun hcd => ?_) (fun hcd => ?_)|refine zX ?_|refine zY ?_|refine zv (fun hcd => ?_) (fun hcd => ?_)|refine zk ?_|refine zl ?_|refine zm ?_|refine zn ?_|refine zf ?_|refine zg ?_|refine zj ?_|refine zZ ?_|refine zh ?_|refine zi ?_|refine zo ?_|refine zp ?_|refine zq ?_|refine zr ?_|refine zs ?_)
    refine r_append1_v (u := .slice q5 (sortP Z).length c5) el104 rfl (by decide) hOr rfl rfl rfl (by omega) (hE.trans hE05).size fun v' w' q h1 h2 h3 h4 => ?_
    have hT' := hpush v' w' h1 h2 h4
    have hC6 : Ch (fun g => w.heap.size ≤ g) w5 w' := Ch.grown h2 fun g hg => (hOr.lt g hg).1
    repeat' (first|refine za ?_|refine zA ?_|refine zB ?_|refine zb ?_|refine zc ?_|refine ze ?_|refine zd ?_|refine zC ?_|refine zD ?_|refine zE ?_|refine zF ?_|refine zG ?_|refine zH ?_|refine zI ?_|refine zJ ?_|refine zK ?_|refine zL ?_|refine zM ?_|refine zN ?_|refine zO ?_|refine zP ?_|refine zQ ?_|refine zR ?_|refine zS ?_|refine zU ?_|refine zV ?_|refine zW ?_|refine zt (fun hcd => ?_) (fun hcd => ?_)|refine zu (fun hcd => ?_) (fun hcd => ?_)|refine zX ?_|refine zY ?_|refine zv (fun hcd => ?_) (fun hcd => ?_)|refine zk ?_|refine zl ?_|refine zm ?_|refine zn ?_|refine zf ?_|refine zg ?_|refine zj ?_|refine zZ ?_|refine zh ?_|refine zi ?_|refine zo ?_|refine zp ?_|refine zq ?_|refine zr ?_|refine zs ?_)
    refine ⟨k + 1, v', ⟨?_, rfl, trivial⟩, ⟨by omega, Ch.ext_new (hE.trans hE05) hC6 (Nat.le_refl _), by rw [hsucc]; exact hT'⟩, by omega⟩
    show Value.int .i64 _ = Value.int .i64 _
    congr 1
end Go.Proofs.Ytkdakleckdkhiaa
