/- forks: the reference's Distance. -/
import Derived.Test.YtkdakleckdkhiaaDi
namespace Go.Proofs.Ytkdakleckdkhiaa
open Gv
theorem txs_getE {Q : List T} {i : Nat} (h : i < Q.length) : (txs Q).getD i [] = (Q.getD i .lf).text := getD_text h
theorem take_getE {Q : List T} {i : Nat} (h : i < Q.length) : Q.take (i + 1) = Q.take i ++ [Q.getD i .lf] := by
  rw [List.take_succ_eq_append_getElem h]; simp [List.getD, h]
set_option maxRecDepth 20000 in
set_option maxHeartbeats 16000000 in
theorem distR_any (x y : T) (w : World) (hxy : y.size = x.size) (hx : x.size ≤ 7) : Calls Try.prog 25 #[str x.text, str y.text] w (Ret fun v w' => v = .int .i64 (dist x y : Int) ∧ Ext w w') := by
  have hdb := dist_bnd (x := x) (y := y) hxy.symm
  refine calls_of_wc (args := [str x.text, str y.text]) Try.func25 rfl ?_ ?_; kernel_rfl
  repeat' (first|refine za ?_|refine zA ?_|refine zB ?_|refine zb ?_|refine zc ?_|refine ze ?_|refine zd ?_|refine zC ?_|refine zD ?_|refine zE ?_|refine zF ?_|refine zG ?_|refine zH ?_|refine zI ?_|refine zJ ?_|refine zK ?_|refine zL ?_|refine zM ?_|refine zN ?_|refine zO ?_|refine zP ?_|refine zQ ?_|refine zR ?_|refine zS ?_|refine zU ?_|refine zV ?_|refine zW ?_|refine zt (fun hcd => ?_) (fun hcd => ?_)|refine zu (fun hcd => ?_) (fun hcd => ?_)|refine zX ?_|refine zY ?_|refine zv (fun hcd => ?_) (fun hcd => ?_)|refine zk ?_|refine zl ?_|refine zm ?_|refine zn ?_|refine zf ?_|refine zg ?_|refine zj ?_|refine zZ ?_|refine zh ?_|refine zi ?_|refine zo ?_|refine zp ?_|refine zq ?_|refine zr ?_|refine zs ?_)
  (refine r_call_q (v := ?_) rfl ?_ ?_; rotate_left 1; focus exact forksR_any x w (by omega))
  repeat' (first|refine za ?_|refine zA ?_|refine zB ?_|refine zb ?_|refine zc ?_|refine ze ?_|refine zd ?_|refine zC ?_|refine zD ?_|refine zE ?_|refine zF ?_|refine zG ?_|refine zH ?_|refine zI ?_|refine zJ ?_|refine zK ?_|refine zL ?_|refine zM ?_|refine zN ?_|refine zO ?_|refine zP ?_|refine zQ ?_|refine zR ?_|refine zS ?_|refine zU ?_|refine zV ?_|refine zW ?_|refine zt (fun hcd => ?_) (fun hcd => ?_)|refine zu (fun hcd => ?_) (fun hcd => ?_)|refine zX ?_|refine zY ?_|refine zv (fun hcd => ?_) (fun hcd => ?_)|refine zk ?_|refine zl ?_|refine zm ?_|refine zn ?_|refine zf ?_|refine zg ?_|refine zj ?_|refine zZ ?_|refine zh ?_|refine zi ?_|refine zo ?_|refine zp ?_|refine zq ?_|refine zr ?_|refine zs ?_)
  (refine r_call (R := ?_) rfl ?_ ?_; rotate_left 1; focus exact allR_any x.size w (by omega))
  rintro v1 w1 ⟨hS1, hE1⟩
  have hAt : ∀ z : T, z.size = x.size → At (allS x.size) (srk z) z.text := fun z hz => by rw [← hz]; exact srk_at (by omega)
  have hDL := DL.zero x
  have hAl := (hAt x rfl).len
  have hA0 := (hAt x rfl).lt
  have hlenB : ∀ d Q B, DL x d Q B → B.length = (allS x.size).length := fun d Q B h => h.len
  have hlenN : ∀ d Q i t k N B, DN x d Q i t k N B → B.length = (allS x.size).length := fun d Q i t k N B h => h.len
  generalize allS x.size = A at *
  obtain ⟨q1, c1, e1, _⟩ := hS1.slice
  subst e1
  have b1 := strs_own_lt hS1 (by omega)
  repeat' (first|refine za ?_|refine zA ?_|refine zB ?_|refine zb ?_|refine zc ?_|refine ze ?_|refine zd ?_|refine zC ?_|refine zD ?_|refine zE ?_|refine zF ?_|refine zG ?_|refine zH ?_|refine zI ?_|refine zJ ?_|refine zK ?_|refine zL ?_|refine zM ?_|refine zN ?_|refine zO ?_|refine zP ?_|refine zQ ?_|refine zR ?_|refine zS ?_|refine zU ?_|refine zV ?_|refine zW ?_|refine zt (fun hcd => ?_) (fun hcd => ?_)|refine zu (fun hcd => ?_) (fun hcd => ?_)|refine zX ?_|refine zY ?_|refine zv (fun hcd => ?_) (fun hcd => ?_)|refine zk ?_|refine zl ?_|refine zm ?_|refine zn ?_|refine zf ?_|refine zg ?_|refine zj ?_|refine zZ ?_|refine zh ?_|refine zi ?_|refine zo ?_|refine zp ?_|refine zq ?_|refine zr ?_|refine zs ?_)
  refine r_make_b (n := A.length) el95 rfl rfl (by omega) fun w2 hB2 hE2 hs2 => ?_
  obtain ⟨g6, eg6⟩ : ∃ g, g = w1.heap.size := ⟨_, rfl⟩
  rw [← eg6] at hB2 ⊢
  have hg6w : w.heap.size ≤ g6 := by have := Ext.size hE1; omega
  repeat' (first|refine za ?_|refine zA ?_|refine zB ?_|refine zb ?_|refine zc ?_|refine ze ?_|refine zd ?_|refine zC ?_|refine zD ?_|refine zE ?_|refine zF ?_|refine zG ?_|refine zH ?_|refine zI ?_|refine zJ ?_|refine zK ?_|refine zL ?_|refine zM ?_|refine zN ?_|refine zO ?_|refine zP ?_|refine zQ ?_|refine zR ?_|refine zS ?_|refine zU ?_|refine zV ?_|refine zW ?_|refine zt (fun hcd => ?_) (fun hcd => ?_)|refine zu (fun hcd => ?_) (fun hcd => ?_)|refine zX ?_|refine zY ?_|refine zv (fun hcd => ?_) (fun hcd => ?_)|refine zk ?_|refine zl ?_|refine zm ?_|refine zn ?_|refine zf ?_|refine zg ?_|refine zj ?_|refine zZ ?_|refine zh ?_|refine zi ?_|refine zo ?_|refine zp ?_|refine zq ?_|refine zr ?_|refine zs ?_)
  (refine r_call_q (v := ?_) rfl ?_ ?_; rotate_left 1; focus exact ixR_any _ A (srk x) x.text w2 (hS1.ext hE2) (hAt x rfl))
  repeat' (first|refine za ?_|refine zA ?_|refine zB ?_|refine zb ?_|refine zc ?_|refine ze ?_|refine zd ?_|refine zC ?_|refine zD ?_|refine zE ?_|refine zF ?_|refine zG ?_|refine zH ?_|refine zI ?_|refine zJ ?_|refine zK ?_|refine zL ?_|refine zM ?_|refine zN ?_|refine zO ?_|refine zP ?_|refine zQ ?_|refine zR ?_|refine zS ?_|refine zU ?_|refine zV ?_|refine zW ?_|refine zt (fun hcd => ?_) (fun hcd => ?_)|refine zu (fun hcd => ?_) (fun hcd => ?_)|refine zX ?_|refine zY ?_|refine zv (fun hcd => ?_) (fun hcd => ?_)|refine zk ?_|refine zl ?_|refine zm ?_|refine zn ?_|refine zf ?_|refine zg ?_|refine zj ?_|refine zZ ?_|refine zh ?_|refine zi ?_|refine zo ?_|refine zp ?_|refine zq ?_|refine zr ?_|refine zs ?_)
  refine r_st_b (i := srk x) (e := 4) (base := g6) (by kernel_rfl) hB2 rfl rfl (by simpa using hA0) fun w3 hB3 hg3 hs3 => ?_
  have hC3 : Ch (fun k => k = g6) w2 w3 := Ch.grown hg3 fun g hg => by simpa [Value.ownBlock] using hg.symm
  have hS3 : Strs w3 (.slice q1 A.length c1) A := (hS1.ext hE2).keep hC3 fun g hg e => by have := b1 g hg; omega
  have hE03 : Ext w w3 := Ch.trans' (hE1.trans hE2) hC3 fun g hg e => by omega
  repeat' (first|refine za ?_|refine zA ?_|refine zB ?_|refine zb ?_|refine zc ?_|refine ze ?_|refine zd ?_|refine zC ?_|refine zD ?_|refine zE ?_|refine zF ?_|refine zG ?_|refine zH ?_|refine zI ?_|refine zJ ?_|refine zK ?_|refine zL ?_|refine zM ?_|refine zN ?_|refine zO ?_|refine zP ?_|refine zQ ?_|refine zR ?_|refine zS ?_|refine zU ?_|refine zV ?_|refine zW ?_|refine zt (fun hcd => ?_) (fun hcd => ?_)|refine zu (fun hcd => ?_) (fun hcd => ?_)|refine zX ?_|refine zY ?_|refine zv (fun hcd => ?_) (fun hcd => ?_)|refine zk ?_|refine zl ?_|refine zm ?_|refine zn ?_|refine zf ?_|refine zg ?_|refine zj ?_|refine zZ ?_|refine zh ?_|refine zi ?_|refine zo ?_|refine zp ?_|refine zq ?_|refine zr ?_|refine zs ?_)
  refine r_buildS1 (u := str x.text) el32 rfl rfl fun w4 hO4 hE4 hs4 => ?_
  have hg64 : g6 < w3.heap.size := by omega
  have hq4 : ∀ g, (Value.slice (some ⟨w3.heap.size, 0, none⟩) 1 1).ownBlock = some g → g ≠ g6 := fun g hg => by
    have : w3.heap.size = g := by simpa [Value.ownBlock] using hg
    omega
  repeat' (first|refine za ?_|refine zA ?_|refine zB ?_|refine zb ?_|refine zc ?_|refine ze ?_|refine zd ?_|refine zC ?_|refine zD ?_|refine zE ?_|refine zF ?_|refine zG ?_|refine zH ?_|refine zI ?_|refine zJ ?_|refine zK ?_|refine zL ?_|refine zM ?_|refine zN ?_|refine zO ?_|refine zP ?_|refine zQ ?_|refine zR ?_|refine zS ?_|refine zU ?_|refine zV ?_|refine zW ?_|refine zt (fun hcd => ?_) (fun hcd => ?_)|refine zu (fun hcd => ?_) (fun hcd => ?_)|refine zX ?_|refine zY ?_|refine zv (fun hcd => ?_) (fun hcd => ?_)|refine zk ?_|refine zl ?_|refine zm ?_|refine zn ?_|refine zf ?_|refine zg ?_|refine zj ?_|refine zZ ?_|refine zh ?_|refine zi ?_|refine zo ?_|refine zp ?_|refine zq ?_|refine zr ?_|refine zs ?_)
  refine wc_loop4 [0, 1, 5, 6] (fun (d : Nat) (vq : Value) (Q : List T) (B : List Bool) => [(8, .int .i64 d), (7, vq)])
    (fun d vq Q B wk => Ext w wk ∧ g6 < wk.heap.size ∧ Strs wk (.slice q1 A.length c1) A ∧ OwnL wk g6 4 (.slice (some ⟨g6, 0, none⟩) A.length A.length) B ∧ Strs wk vq (txs Q) ∧ (∀ g, vq.ownBlock = some g → g ≠ g6) ∧ DL x d Q B ∧ d ≤ dist x y) (fun d _ _ _ => dist x y + 1 - d)
    0 (.slice (some ⟨w3.heap.size, 0, none⟩) 1 1) [x] _ rfl ⟨rfl, rfl, trivial⟩ ⟨hE03.trans hE4, by have := Ext.size hE4; omega, hS3.ext hE4, OwnL.ext hB3 hE4, Gv.Own.sl hO4, hq4, hDL, by omega⟩ ?_
  rintro d vq Q B wk xe ⟨hE, hgk, hS, hB, hQ, hqg, hL, hd⟩
  obtain ⟨qq, cq, eq_, _⟩ := hQ.slice
  subst eq_
  have hlQ : (txs Q).length = Q.length := by simp
  have hQ0 := hL.some hxy hd
  have hQm := hL.mem
  have hQl := trees_len (n := x.size) (by omega) hL.nod fun t ht => ((hQm t).1 ht).1
  have bq := strs_own_lt hQ (by omega)
  have bA := strs_own_lt hS (by omega)
  have nA : ∀ g, (Value.slice q1 A.length c1).ownBlock = some g → ¬ (g = g6 ∨ wk.heap.size ≤ g) := fun g hg h => by have := b1 g hg; have := bA g hg; omega
  have nQ : ∀ g, (Value.slice qq (txs Q).length cq).ownBlock = some g → ¬ (g = g6 ∨ wk.heap.size ≤ g) := fun g hg h => by have := hqg g hg; have := bq g hg; omega
  repeat' (first|refine za ?_|refine zA ?_|refine zB ?_|refine zb ?_|refine zc ?_|refine ze ?_|refine zd ?_|refine zC ?_|refine zD ?_|refine zE ?_|refine zF ?_|refine zG ?_|refine zH ?_|refine zI ?_|refine zJ ?_|refine zK ?_|refine zL ?_|refine zM ?_|refine zN ?_|refine zO ?_|refine zP ?_|refine zQ ?_|refine zR ?_|refine zS ?_|refine zU ?_|refine zV ?_|refine zW ?_|refine zt (fun hcd => ?_) (fun hcd => ?_)|refine zu (fun hcd => ?_) (fun hcd => ?_)|refine zX ?_|refine zY ?_|refine zv (fun hcd => ?_) (fun hcd => ?_)|refine zk ?_|refine zl ?_|refine zm ?_|refine zn ?_|refine zf ?_|refine zg ?_|refine zj ?_|refine zZ ?_|refine zh ?_|refine zi ?_|refine zo ?_|refine zp ?_|refine zq ?_|refine zr ?_|refine zs ?_)
  refine wc_loop4 [0, 1, 5, 6, 7, 8] (fun (i : Nat) (vn : Value) (N : List T) (B : List Bool) => [(10, .int .i64 i), (9, vn)])
    (fun i vn N B wi => i ≤ Q.length ∧ Ch (fun g => g = g6 ∨ wk.heap.size ≤ g) wk wi ∧ OwnL wi g6 4 (.slice (some ⟨g6, 0, none⟩) A.length A.length) B ∧ OwnS wi wk.heap.size vn (txs N) ∧ DN x d Q i x 0 N B ∧ ¬ y ∈ Q.take i) (fun i _ _ _ => Q.length - i)
    0 (.slice none 0 0) [] B rfl ⟨rfl, rfl, trivial⟩ ⟨by omega, Ch.refl _ _, hB, World.ownsRow_nil _ _ _ _, DN.start hL x, by simp⟩ ?_
  rintro i vn N B wi xf ⟨hi, hC, hB, hN, hD, hyn⟩
  obtain ⟨qn, cn, en, _⟩ := hN.strs.slice
  subst en
  by_cases hiQ : i < Q.length
  rotate_left 1
  · obtain rfl : i = Q.length := by omega
    rw [List.take_length] at hyn
    have hL' := DN.fin hQm hD
    have hne : dist x y ≠ d := fun e => hyn ((hQm y).2 ⟨hxy, e⟩)
    have hsz := hC.size
    repeat' (first|refine za ?_|refine zA ?_|refine zB ?_|refine zb ?_|refine zc ?_|refine ze ?_|refine zd ?_|refine zC ?_|refine zD ?_|refine zE ?_|refine zF ?_|refine zG ?_|refine zH ?_|refine zI ?_|refine zJ ?_|refine zK ?_|refine zL ?_|refine zM ?_|refine zN ?_|refine zO ?_|refine zP ?_|refine zQ ?_|refine zR ?_|refine zS ?_|refine zU ?_|refine zV ?_|refine zW ?_|refine zt (fun hcd => ?_) (fun hcd => ?_)|refine zu (fun hcd => ?_) (fun hcd => ?_)|refine zX ?_|refine zY ?_|refine zv (fun hcd => ?_) (fun hcd => ?_)|refine zk ?_|refine zl ?_|refine zm ?_|refine zn ?_|refine zf ?_|refine zg ?_|refine zj ?_|refine zZ ?_|refine zh ?_|refine zi ?_|refine zo ?_|refine zp ?_|refine zq ?_|refine zr ?_|refine zs ?_)
    refine ⟨d + 1, .slice qn (txs N).length cn, N, B, ⟨?_, rfl, trivial⟩, ⟨Ch.trans' hE hC fun g hg e => by omega, by omega, hS.keep hC nA, hB, hN.strs, fun g hg => by have := World.ownsRow.lt hN g hg; omega, hL', by omega⟩, by omega⟩
    show Value.int .i64 _ = Value.int .i64 _
    congr 1
  have hps : qq.isSome = true := hQ.isSome (by omega)
  have hQi := hQ.keep hC nQ
  have hri := strs_get0 hQi (i := i) (by omega) (j := (i : Int)) rfl
  have htQ : Q.getD i .lf ∈ Q := getD_mem hiQ
  have htk := take_getE hiQ
  have htx := txs_getE hiQ
  rw [htx] at hri
  generalize Q.getD i .lf = t at *
  obtain ⟨hts, htd⟩ := (hQm t).1 htQ
  by_cases hty : t.text = y.text
  · have := text_inj hty
    subst this
    repeat' (first|refine za ?_|refine zA ?_|refine zB ?_|refine zb ?_|refine zc ?_|refine ze ?_|refine zd ?_|refine zC ?_|refine zD ?_|refine zE ?_|refine zF ?_|refine zG ?_|refine zH ?_|refine zI ?_|refine zJ ?_|refine zK ?_|refine zL ?_|refine zM ?_|refine zN ?_|refine zO ?_|refine zP ?_|refine zQ ?_|refine zR ?_|refine zS ?_|refine zU ?_|refine zV ?_|refine zW ?_|refine zt (fun hcd => ?_) (fun hcd => ?_)|refine zu (fun hcd => ?_) (fun hcd => ?_)|refine zX ?_|refine zY ?_|refine zv (fun hcd => ?_) (fun hcd => ?_)|refine zk ?_|refine zl ?_|refine zm ?_|refine zn ?_|refine zf ?_|refine zg ?_|refine zj ?_|refine zZ ?_|refine zh ?_|refine zi ?_|refine zo ?_|refine zp ?_|refine zq ?_|refine zr ?_|refine zs ?_)
    refine r_seql_v (a := t.text) (b := t.text) (c := true) rfl rfl (decide_eq_true rfl) ?_
    repeat' (first|refine za ?_|refine zA ?_|refine zB ?_|refine zb ?_|refine zc ?_|refine ze ?_|refine zd ?_|refine zC ?_|refine zD ?_|refine zE ?_|refine zF ?_|refine zG ?_|refine zH ?_|refine zI ?_|refine zJ ?_|refine zK ?_|refine zL ?_|refine zM ?_|refine zN ?_|refine zO ?_|refine zP ?_|refine zQ ?_|refine zR ?_|refine zS ?_|refine zU ?_|refine zV ?_|refine zW ?_|refine zt (fun hcd => ?_) (fun hcd => ?_)|refine zu (fun hcd => ?_) (fun hcd => ?_)|refine zX ?_|refine zY ?_|refine zv (fun hcd => ?_) (fun hcd => ?_)|refine zk ?_|refine zl ?_|refine zm ?_|refine zn ?_|refine zf ?_|refine zg ?_|refine zj ?_|refine zZ ?_|refine zh ?_|refine zi ?_|refine zo ?_|refine zp ?_|refine zq ?_|refine zr ?_|refine zs ?_)
    refine post1 (v := .int .i64 (d : Int)) rfl rfl ?_
    exact ⟨by rw [htd], Ch.trans' hE hC fun g hg e => by omega⟩
  have hyn2 : ¬ y ∈ Q.take (i + 1) := by
    rw [htk, List.mem_append, List.mem_singleton]
    rintro (h | rfl)
    · exact hyn h
    · exact hty rfl
  repeat' (first|refine za ?_|refine zA ?_|refine zB ?_|refine zb ?_|refine zc ?_|refine ze ?_|refine zd ?_|refine zC ?_|refine zD ?_|refine zE ?_|refine zF ?_|refine zG ?_|refine zH ?_|refine zI ?_|refine zJ ?_|refine zK ?_|refine zL ?_|refine zM ?_|refine zN ?_|refine zO ?_|refine zP ?_|refine zQ ?_|refine zR ?_|refine zS ?_|refine zU ?_|refine zV ?_|refine zW ?_|refine zt (fun hcd => ?_) (fun hcd => ?_)|refine zu (fun hcd => ?_) (fun hcd => ?_)|refine zX ?_|refine zY ?_|refine zv (fun hcd => ?_) (fun hcd => ?_)|refine zk ?_|refine zl ?_|refine zm ?_|refine zn ?_|refine zf ?_|refine zg ?_|refine zj ?_|refine zZ ?_|refine zh ?_|refine zi ?_|refine zo ?_|refine zp ?_|refine zq ?_|refine zr ?_|refine zs ?_)
  refine r_seql_v (a := t.text) (b := y.text) (c := false) rfl rfl (decide_eq_false hty) ?_
  repeat' (first|refine za ?_|refine zA ?_|refine zB ?_|refine zb ?_|refine zc ?_|refine ze ?_|refine zd ?_|refine zC ?_|refine zD ?_|refine zE ?_|refine zF ?_|refine zG ?_|refine zH ?_|refine zI ?_|refine zJ ?_|refine zK ?_|refine zL ?_|refine zM ?_|refine zN ?_|refine zO ?_|refine zP ?_|refine zQ ?_|refine zR ?_|refine zS ?_|refine zU ?_|refine zV ?_|refine zW ?_|refine zt (fun hcd => ?_) (fun hcd => ?_)|refine zu (fun hcd => ?_) (fun hcd => ?_)|refine zX ?_|refine zY ?_|refine zv (fun hcd => ?_) (fun hcd => ?_)|refine zk ?_|refine zl ?_|refine zm ?_|refine zn ?_|refine zf ?_|refine zg ?_|refine zj ?_|refine zZ ?_|refine zh ?_|refine zi ?_|refine zo ?_|refine zp ?_|refine zq ?_|refine zr ?_|refine zs ?_)
  refine wc_loop4 [0, 1, 5, 6, 7, 8, 10] (fun (k : Nat) (vn : Value) (N : List T) (B : List Bool) => [(11, .int .i64 k), (9, vn)])
    (fun k vn N B wj => k ≤ 2 * x.size ∧ Ch (fun g => g = g6 ∨ wk.heap.size ≤ g) wk wj ∧ OwnL wj g6 4 (.slice (some ⟨g6, 0, none⟩) A.length A.length) B ∧ OwnS wj wk.heap.size vn (txs N) ∧ DN x d Q i t k N B) (fun k _ _ _ => 2 * x.size - k)
    0 (.slice qn (txs N).length cn) N B rfl ⟨rfl, rfl, trivial⟩ ⟨by omega, hC, hB, hN, hD.other t⟩ ?_
  clear hB hN hD hC hQi hri
  rintro k vm N B wj xg ⟨hk, hC, hB, hN, hD⟩
  obtain ⟨qm, cm, em, _⟩ := hN.strs.slice
  subst em
  have hQj := hQ.keep hC nQ
  have hSj := hS.keep hC nA
  have hrj := strs_get0 hQj (i := i) (by omega) (j := (i : Int)) rfl
  rw [htx] at hrj
  have hBl := hlenN _ _ _ _ _ _ _ hD
  have hNl : (txs N).length ≤ 16796 := by
    have := trees_len (n := x.size) (by omega) hD.nod fun t ht => (hD.mem t ht).1
    simpa using this
  by_cases hkx : k < 2 * x.size
  rotate_left 1
  · obtain rfl : k = 2 * x.size := by omega
    repeat' (first|refine za ?_|refine zA ?_|refine zB ?_|refine zb ?_|refine zc ?_|refine ze ?_|refine zd ?_|refine zC ?_|refine zD ?_|refine zE ?_|refine zF ?_|refine zG ?_|refine zH ?_|refine zI ?_|refine zJ ?_|refine zK ?_|refine zL ?_|refine zM ?_|refine zN ?_|refine zO ?_|refine zP ?_|refine zQ ?_|refine zR ?_|refine zS ?_|refine zU ?_|refine zV ?_|refine zW ?_|refine zt (fun hcd => ?_) (fun hcd => ?_)|refine zu (fun hcd => ?_) (fun hcd => ?_)|refine zX ?_|refine zY ?_|refine zv (fun hcd => ?_) (fun hcd => ?_)|refine zk ?_|refine zl ?_|refine zm ?_|refine zn ?_|refine zf ?_|refine zg ?_|refine zj ?_|refine zZ ?_|refine zh ?_|refine zi ?_|refine zo ?_|refine zp ?_|refine zq ?_|refine zr ?_|refine zs ?_)
    (refine r_call_q (v := ?_) rfl ?_ ?_; rotate_left 1; focus exact forksR_any x wj (by omega))
    repeat' (first|refine za ?_|refine zA ?_|refine zB ?_|refine zb ?_|refine zc ?_|refine ze ?_|refine zd ?_|refine zC ?_|refine zD ?_|refine zE ?_|refine zF ?_|refine zG ?_|refine zH ?_|refine zI ?_|refine zJ ?_|refine zK ?_|refine zL ?_|refine zM ?_|refine zN ?_|refine zO ?_|refine zP ?_|refine zQ ?_|refine zR ?_|refine zS ?_|refine zU ?_|refine zV ?_|refine zW ?_|refine zt (fun hcd => ?_) (fun hcd => ?_)|refine zu (fun hcd => ?_) (fun hcd => ?_)|refine zX ?_|refine zY ?_|refine zv (fun hcd => ?_) (fun hcd => ?_)|refine zk ?_|refine zl ?_|refine zm ?_|refine zn ?_|refine zf ?_|refine zg ?_|refine zj ?_|refine zZ ?_|refine zh ?_|refine zi ?_|refine zo ?_|refine zp ?_|refine zq ?_|refine zr ?_|refine zs ?_)
    refine r_mul_in rfl rfl (by omega) ?_
    repeat' (first|refine za ?_|refine zA ?_|refine zB ?_|refine zb ?_|refine zc ?_|refine ze ?_|refine zd ?_|refine zC ?_|refine zD ?_|refine zE ?_|refine zF ?_|refine zG ?_|refine zH ?_|refine zI ?_|refine zJ ?_|refine zK ?_|refine zL ?_|refine zM ?_|refine zN ?_|refine zO ?_|refine zP ?_|refine zQ ?_|refine zR ?_|refine zS ?_|refine zU ?_|refine zV ?_|refine zW ?_|refine zt (fun hcd => ?_) (fun hcd => ?_)|refine zu (fun hcd => ?_) (fun hcd => ?_)|refine zX ?_|refine zY ?_|refine zv (fun hcd => ?_) (fun hcd => ?_)|refine zk ?_|refine zl ?_|refine zm ?_|refine zn ?_|refine zf ?_|refine zg ?_|refine zj ?_|refine zZ ?_|refine zh ?_|refine zi ?_|refine zo ?_|refine zp ?_|refine zq ?_|refine zr ?_|refine zs ?_)
    exact ⟨i + 1, .slice qm (txs N).length cm, N, B, ⟨rfl, rfl, trivial⟩, ⟨by omega, hC, hB, hN, (hD.row hts htk).other x, hyn2⟩, by omega⟩
  obtain ⟨q, hq⟩ : ∃ q, q = k / 2 := ⟨_, rfl⟩
  have hqx : q < t.size := by omega
  -- what a turn adds
  have step : ∀ b : Bool, decide (k % 2 = 0) = b → ∀ z, t.turn q b = some z → t.turn (k / 2) (decide (k % 2 = 0)) = some z := fun b hb z hz => by rw [← hq, hb]; exact hz
  have none_ : ∀ b : Bool, decide (k % 2 = 0) = b → t.turn q b = none → DN x d Q i t (k + 1) N B := fun b hb hz => hD.skip fun z hz2 => by rw [← hq, hb, hz] at hz2; cases hz2
  repeat' (first|refine za ?_|refine zA ?_|refine zB ?_|refine zb ?_|refine zc ?_|refine ze ?_|refine zd ?_|refine zC ?_|refine zD ?_|refine zE ?_|refine zF ?_|refine zG ?_|refine zH ?_|refine zI ?_|refine zJ ?_|refine zK ?_|refine zL ?_|refine zM ?_|refine zN ?_|refine zO ?_|refine zP ?_|refine zQ ?_|refine zR ?_|refine zS ?_|refine zU ?_|refine zV ?_|refine zW ?_|refine zt (fun hcd => ?_) (fun hcd => ?_)|refine zu (fun hcd => ?_) (fun hcd => ?_)|refine zX ?_|refine zY ?_|refine zv (fun hcd => ?_) (fun hcd => ?_)|refine zk ?_|refine zl ?_|refine zm ?_|refine zn ?_|refine zf ?_|refine zg ?_|refine zj ?_|refine zZ ?_|refine zh ?_|refine zi ?_|refine zo ?_|refine zp ?_|refine zq ?_|refine zr ?_|refine zs ?_)
  (refine r_call_q (v := ?_) rfl ?_ ?_; rotate_left 1; focus exact forksR_any x wj (by omega))
  repeat' (first|refine za ?_|refine zA ?_|refine zB ?_|refine zb ?_|refine zc ?_|refine ze ?_|refine zd ?_|refine zC ?_|refine zD ?_|refine zE ?_|refine zF ?_|refine zG ?_|refine zH ?_|refine zI ?_|refine zJ ?_|refine zK ?_|refine zL ?_|refine zM ?_|refine zN ?_|refine zO ?_|refine zP ?_|refine zQ ?_|refine zR ?_|refine zS ?_|refine zU ?_|refine zV ?_|refine zW ?_|refine zt (fun hcd => ?_) (fun hcd => ?_)|refine zu (fun hcd => ?_) (fun hcd => ?_)|refine zX ?_|refine zY ?_|refine zv (fun hcd => ?_) (fun hcd => ?_)|refine zk ?_|refine zl ?_|refine zm ?_|refine zn ?_|refine zf ?_|refine zg ?_|refine zj ?_|refine zZ ?_|refine zh ?_|refine zi ?_|refine zo ?_|refine zp ?_|refine zq ?_|refine zr ?_|refine zs ?_)
  refine r_mul_in rfl rfl (by omega) ?_
  repeat' (first|refine za ?_|refine zA ?_|refine zB ?_|refine zb ?_|refine zc ?_|refine ze ?_|refine zd ?_|refine zC ?_|refine zD ?_|refine zE ?_|refine zF ?_|refine zG ?_|refine zH ?_|refine zI ?_|refine zJ ?_|refine zK ?_|refine zL ?_|refine zM ?_|refine zN ?_|refine zO ?_|refine zP ?_|refine zQ ?_|refine zR ?_|refine zS ?_|refine zU ?_|refine zV ?_|refine zW ?_|refine zt (fun hcd => ?_) (fun hcd => ?_)|refine zu (fun hcd => ?_) (fun hcd => ?_)|refine zX ?_|refine zY ?_|refine zv (fun hcd => ?_) (fun hcd => ?_)|refine zk ?_|refine zl ?_|refine zm ?_|refine zn ?_|refine zf ?_|refine zg ?_|refine zj ?_|refine zZ ?_|refine zh ?_|refine zi ?_|refine zo ?_|refine zp ?_|refine zq ?_|refine zr ?_|refine zs ?_)
  refine r_half (m := k) (r := q) rfl rfl rfl (by omega) hq.symm ?_
  repeat' (first|refine za ?_|refine zA ?_|refine zB ?_|refine zb ?_|refine zc ?_|refine ze ?_|refine zd ?_|refine zC ?_|refine zD ?_|refine zE ?_|refine zF ?_|refine zG ?_|refine zH ?_|refine zI ?_|refine zJ ?_|refine zK ?_|refine zL ?_|refine zM ?_|refine zN ?_|refine zO ?_|refine zP ?_|refine zQ ?_|refine zR ?_|refine zS ?_|refine zU ?_|refine zV ?_|refine zW ?_|refine zt (fun hcd => ?_) (fun hcd => ?_)|refine zu (fun hcd => ?_) (fun hcd => ?_)|refine zX ?_|refine zY ?_|refine zv (fun hcd => ?_) (fun hcd => ?_)|refine zk ?_|refine zl ?_|refine zm ?_|refine zn ?_|refine zf ?_|refine zg ?_|refine zj ?_|refine zZ ?_|refine zh ?_|refine zi ?_|refine zo ?_|refine zp ?_|refine zq ?_|refine zr ?_|refine zs ?_)
  refine r_rem_in rfl rfl (by omega) (by omega) ?_
  rcases Nat.mod_two_eq_zero_or_one k with hp | hp
  · repeat' (first|refine za ?_|refine zA ?_|refine zB ?_|refine zb ?_|refine zc ?_|refine ze ?_|refine zd ?_|refine zC ?_|refine zD ?_|refine zE ?_|refine zF ?_|refine zG ?_|refine zH ?_|refine zI ?_|refine zJ ?_|refine zK ?_|refine zL ?_|refine zM ?_|refine zN ?_|refine zO ?_|refine zP ?_|refine zQ ?_|refine zR ?_|refine zS ?_|refine zU ?_|refine zV ?_|refine zW ?_|refine zt (fun hcd => ?_) (fun hcd => ?_)|refine zu (fun hcd => ?_) (fun hcd => ?_)|refine zX ?_|refine zY ?_|refine zv (fun hcd => ?_) (fun hcd => ?_)|refine zk ?_|refine zl ?_|refine zm ?_|refine zn ?_|refine zf ?_|refine zg ?_|refine zj ?_|refine zZ ?_|refine zh ?_|refine zi ?_|refine zo ?_|refine zp ?_|refine zq ?_|refine zr ?_|refine zs ?_)
    (refine r_call (R := ?_) rfl ?_ ?_; rotate_left 1; focus exact turnR_any t q true wj hqx (by omega))
    rintro v5 w5 ⟨hE5, s', hv5, hl5, hs5⟩
    have hC5 := hC.trans hE5.ch
    cases hz : t.turn q true with
    | none =>
      rw [hz] at hv5
      subst hv5
      repeat' (first|refine za ?_|refine zA ?_|refine zB ?_|refine zb ?_|refine zc ?_|refine ze ?_|refine zd ?_|refine zC ?_|refine zD ?_|refine zE ?_|refine zF ?_|refine zG ?_|refine zH ?_|refine zI ?_|refine zJ ?_|refine zK ?_|refine zL ?_|refine zM ?_|refine zN ?_|refine zO ?_|refine zP ?_|refine zQ ?_|refine zR ?_|refine zS ?_|refine zU ?_|refine zV ?_|refine zW ?_|refine zt (fun hcd => ?_) (fun hcd => ?_)|refine zu (fun hcd => ?_) (fun hcd => ?_)|refine zX ?_|refine zY ?_|refine zv (fun hcd => ?_) (fun hcd => ?_)|refine zk ?_|refine zl ?_|refine zm ?_|refine zn ?_|refine zf ?_|refine zg ?_|refine zj ?_|refine zZ ?_|refine zh ?_|refine zi ?_|refine zo ?_|refine zp ?_|refine zq ?_|refine zr ?_|refine zs ?_)
      exact ⟨k + 1, .slice qm (txs N).length cm, N, B, ⟨rfl, rfl, trivial⟩, ⟨by omega, hC5, OwnL.ext hB hE5, OwnS.ext hN hE5, none_ true (decide_eq_true hp) hz⟩, by omega⟩
    | some z =>
      rw [hz] at hv5
      subst hv5
      have hsz := hs5 z hz
      subst hsz
      have hzx : z.size = x.size := (turn_size _ _ _ _ hz).trans hts
      have hAz := hAt z hzx
      have hzl := hAz.lt
      have hst := step true (decide_eq_true hp) z hz
      have hB5 : OwnL w5 g6 4 (.slice (some ⟨g6, 0, none⟩) A.length A.length) B := OwnL.ext hB hE5
      have hN5 : OwnS w5 wk.heap.size (.slice qm (txs N).length cm) (txs N) := OwnS.ext hN hE5
      have hrb : rd w5 (pidx (some ⟨g6, 0, none⟩) ((srk z : Nat) : Int).toNat 1) = some (.bool (B.getD (srk z) false)) := by
        rw [Int.toNat_natCast]
        exact Bls.rd (OwnL.bls hB5) (by omega)
      repeat' (first|refine za ?_|refine zA ?_|refine zB ?_|refine zb ?_|refine zc ?_|refine ze ?_|refine zd ?_|refine zC ?_|refine zD ?_|refine zE ?_|refine zF ?_|refine zG ?_|refine zH ?_|refine zI ?_|refine zJ ?_|refine zK ?_|refine zL ?_|refine zM ?_|refine zN ?_|refine zO ?_|refine zP ?_|refine zQ ?_|refine zR ?_|refine zS ?_|refine zU ?_|refine zV ?_|refine zW ?_|refine zt (fun hcd => ?_) (fun hcd => ?_)|refine zu (fun hcd => ?_) (fun hcd => ?_)|refine zX ?_|refine zY ?_|refine zv (fun hcd => ?_) (fun hcd => ?_)|refine zk ?_|refine zl ?_|refine zm ?_|refine zn ?_|refine zf ?_|refine zg ?_|refine zj ?_|refine zZ ?_|refine zh ?_|refine zi ?_|refine zo ?_|refine zp ?_|refine zq ?_|refine zr ?_|refine zs ?_)
      (refine r_call_q (v := ?_) rfl ?_ ?_; rotate_left 1; focus exact ixR_any _ A (srk z) z.text w5 (hSj.ext hE5) hAz)
      cases hBz : B.getD (srk z) false with
      | true =>
        rw [hBz] at hrb
        repeat' (first|refine za ?_|refine zA ?_|refine zB ?_|refine zb ?_|refine zc ?_|refine ze ?_|refine zd ?_|refine zC ?_|refine zD ?_|refine zE ?_|refine zF ?_|refine zG ?_|refine zH ?_|refine zI ?_|refine zJ ?_|refine zK ?_|refine zL ?_|refine zM ?_|refine zN ?_|refine zO ?_|refine zP ?_|refine zQ ?_|refine zR ?_|refine zS ?_|refine zU ?_|refine zV ?_|refine zW ?_|refine zt (fun hcd => ?_) (fun hcd => ?_)|refine zu (fun hcd => ?_) (fun hcd => ?_)|refine zX ?_|refine zY ?_|refine zv (fun hcd => ?_) (fun hcd => ?_)|refine zk ?_|refine zl ?_|refine zm ?_|refine zn ?_|refine zf ?_|refine zg ?_|refine zj ?_|refine zZ ?_|refine zh ?_|refine zi ?_|refine zo ?_|refine zp ?_|refine zq ?_|refine zr ?_|refine zs ?_)
        exact ⟨k + 1, .slice qm (txs N).length cm, N, B, ⟨rfl, rfl, trivial⟩, ⟨by omega, hC5, hB5, hN5, hD.skip fun z' hz' => by
          rw [hst] at hz'
          cases hz'
          exact ⟨hzx, hBz⟩⟩, by omega⟩
      | false =>
        rw [hBz] at hrb
        repeat' (first|refine za ?_|refine zA ?_|refine zB ?_|refine zb ?_|refine zc ?_|refine ze ?_|refine zd ?_|refine zC ?_|refine zD ?_|refine zE ?_|refine zF ?_|refine zG ?_|refine zH ?_|refine zI ?_|refine zJ ?_|refine zK ?_|refine zL ?_|refine zM ?_|refine zN ?_|refine zO ?_|refine zP ?_|refine zQ ?_|refine zR ?_|refine zS ?_|refine zU ?_|refine zV ?_|refine zW ?_|refine zt (fun hcd => ?_) (fun hcd => ?_)|refine zu (fun hcd => ?_) (fun hcd => ?_)|refine zX ?_|refine zY ?_|refine zv (fun hcd => ?_) (fun hcd => ?_)|refine zk ?_|refine zl ?_|refine zm ?_|refine zn ?_|refine zf ?_|refine zg ?_|refine zj ?_|refine zZ ?_|refine zh ?_|refine zi ?_|refine zo ?_|refine zp ?_|refine zq ?_|refine zr ?_|refine zs ?_)
        (refine r_call_q (v := ?_) rfl ?_ ?_; rotate_left 1; focus exact ixR_any _ A (srk z) z.text w5 (hSj.ext hE5) hAz)
        repeat' (first|refine za ?_|refine zA ?_|refine zB ?_|refine zb ?_|refine zc ?_|refine ze ?_|refine zd ?_|refine zC ?_|refine zD ?_|refine zE ?_|refine zF ?_|refine zG ?_|refine zH ?_|refine zI ?_|refine zJ ?_|refine zK ?_|refine zL ?_|refine zM ?_|refine zN ?_|refine zO ?_|refine zP ?_|refine zQ ?_|refine zR ?_|refine zS ?_|refine zU ?_|refine zV ?_|refine zW ?_|refine zt (fun hcd => ?_) (fun hcd => ?_)|refine zu (fun hcd => ?_) (fun hcd => ?_)|refine zX ?_|refine zY ?_|refine zv (fun hcd => ?_) (fun hcd => ?_)|refine zk ?_|refine zl ?_|refine zm ?_|refine zn ?_|refine zf ?_|refine zg ?_|refine zj ?_|refine zZ ?_|refine zh ?_|refine zi ?_|refine zo ?_|refine zp ?_|refine zq ?_|refine zr ?_|refine zs ?_)
        refine r_st_b (i := srk z) (e := 4) (base := g6) (by kernel_rfl) hB5 rfl rfl (by omega) fun w6 hB6 hg6' hs6 => ?_
        have hC6 : Ch (fun k => k = g6) w5 w6 := Ch.grown hg6' fun g hg => by simpa [Value.ownBlock] using hg.symm
        have hN6 : OwnS w6 wk.heap.size (.slice qm (txs N).length cm) (txs N) := Gv.ownsRow_keep hN5 hC6 fun g h1 h2 => by have := World.ownsRow.lt hN5 g h1; omega
        have hC06 := hC5.trans (hC6.mono fun g _ e => .inl e)
        repeat' (first|refine za ?_|refine zA ?_|refine zB ?_|refine zb ?_|refine zc ?_|refine ze ?_|refine zd ?_|refine zC ?_|refine zD ?_|refine zE ?_|refine zF ?_|refine zG ?_|refine zH ?_|refine zI ?_|refine zJ ?_|refine zK ?_|refine zL ?_|refine zM ?_|refine zN ?_|refine zO ?_|refine zP ?_|refine zQ ?_|refine zR ?_|refine zS ?_|refine zU ?_|refine zV ?_|refine zW ?_|refine zt (fun hcd => ?_) (fun hcd => ?_)|refine zu (fun hcd => ?_) (fun hcd => ?_)|refine zX ?_|refine zY ?_|refine zv (fun hcd => ?_) (fun hcd => ?_)|refine zk ?_|refine zl ?_|refine zm ?_|refine zn ?_|refine zf ?_|refine zg ?_|refine zj ?_|refine zZ ?_|refine zh ?_|refine zi ?_|refine zo ?_|refine zp ?_|refine zq ?_|refine zr ?_|refine zs ?_)
        refine r_append1_v (u := str z.text) el32 rfl (by decide) hN6.own rfl rfl rfl (by rw [strs_len]; omega) hC06.size fun v' w' q' g1 g2 g3 g4 => ?_
        have hC7 : Ch (fun g => (Value.slice qm (txs N).length cm).ownBlock = some g) w6 w' := Ch.grown g2 fun g hg => hg
        have hB7 : OwnL w' g6 4 (.slice (some ⟨g6, 0, none⟩) A.length A.length) (B.set (srk z) true) := Gv.ownsRow_keep hB6 hC7 fun g h1 h2 => by
          have e1 : g6 = g := by simpa [Value.ownBlock] using h1
          have := World.ownsRow.lt hN6 g h2
          omega
        repeat' (first|refine za ?_|refine zA ?_|refine zB ?_|refine zb ?_|refine zc ?_|refine ze ?_|refine zd ?_|refine zC ?_|refine zD ?_|refine zE ?_|refine zF ?_|refine zG ?_|refine zH ?_|refine zI ?_|refine zJ ?_|refine zK ?_|refine zL ?_|refine zM ?_|refine zN ?_|refine zO ?_|refine zP ?_|refine zQ ?_|refine zR ?_|refine zS ?_|refine zU ?_|refine zV ?_|refine zW ?_|refine zt (fun hcd => ?_) (fun hcd => ?_)|refine zu (fun hcd => ?_) (fun hcd => ?_)|refine zX ?_|refine zY ?_|refine zv (fun hcd => ?_) (fun hcd => ?_)|refine zk ?_|refine zl ?_|refine zm ?_|refine zn ?_|refine zf ?_|refine zg ?_|refine zj ?_|refine zZ ?_|refine zh ?_|refine zi ?_|refine zo ?_|refine zp ?_|refine zq ?_|refine zr ?_|refine zs ?_)
        exact ⟨k + 1, v', N ++ [z], B.set (srk z) true, ⟨rfl, rfl, trivial⟩, ⟨by omega, hC06.trans (hC7.mono fun g _ e => .inr (World.ownsRow.lt hN6 g e).1), hB7, OwnS.of (by rw [txs, List.map_append, strs, List.map_append]; exact g1), hD.add hts htd hkx hst hBz⟩, by omega⟩
  · repeat' (first|refine za ?_|refine zA ?_|refine zB ?_|refine zb ?_|refine zc ?_|refine ze ?_|refine zd ?_|refine zC ?_|refine zD ?_|refine zE ?_|refine zF ?_|refine zG ?_|refine zH ?_|refine zI ?_|refine zJ ?_|refine zK ?_|refine zL ?_|refine zM ?_|refine zN ?_|refine zO ?_|refine zP ?_|refine zQ ?_|refine zR ?_|refine zS ?_|refine zU ?_|refine zV ?_|refine zW ?_|refine zt (fun hcd => ?_) (fun hcd => ?_)|refine zu (fun hcd => ?_) (fun hcd => ?_)|refine zX ?_|refine zY ?_|refine zv (fun hcd => ?_) (fun hcd => ?_)|refine zk ?_|refine zl ?_|refine zm ?_|refine zn ?_|refine zf ?_|refine zg ?_|refine zj ?_|refine zZ ?_|refine zh ?_|refine zi ?_|refine zo ?_|refine zp ?_|refine zq ?_|refine zr ?_|refine zs ?_)
    (refine r_call (R := ?_) rfl ?_ ?_; rotate_left 1; focus exact turnR_any t q false wj hqx (by omega))
    rintro v5 w5 ⟨hE5, s', hv5, hl5, hs5⟩
    have hC5 := hC.trans hE5.ch
    cases hz : t.turn q false with
    | none =>
      rw [hz] at hv5
      subst hv5
      repeat' (first|refine za ?_|refine zA ?_|refine zB ?_|refine zb ?_|refine zc ?_|refine ze ?_|refine zd ?_|refine zC ?_|refine zD ?_|refine zE ?_|refine zF ?_|refine zG ?_|refine zH ?_|refine zI ?_|refine zJ ?_|refine zK ?_|refine zL ?_|refine zM ?_|refine zN ?_|refine zO ?_|refine zP ?_|refine zQ ?_|refine zR ?_|refine zS ?_|refine zU ?_|refine zV ?_|refine zW ?_|refine zt (fun hcd => ?_) (fun hcd => ?_)|refine zu (fun hcd => ?_) (fun hcd => ?_)|refine zX ?_|refine zY ?_|refine zv (fun hcd => ?_) (fun hcd => ?_)|refine zk ?_|refine zl ?_|refine zm ?_|refine zn ?_|refine zf ?_|refine zg ?_|refine zj ?_|refine zZ ?_|refine zh ?_|refine zi ?_|refine zo ?_|refine zp ?_|refine zq ?_|refine zr ?_|refine zs ?_)
      exact ⟨k + 1, .slice qm (txs N).length cm, N, B, ⟨rfl, rfl, trivial⟩, ⟨by omega, hC5, OwnL.ext hB hE5, OwnS.ext hN hE5, none_ false (decide_eq_false (by omega)) hz⟩, by omega⟩
    | some z =>
      rw [hz] at hv5
      subst hv5
      have hsz := hs5 z hz
      subst hsz
      have hzx : z.size = x.size := (turn_size _ _ _ _ hz).trans hts
      have hAz := hAt z hzx
      have hzl := hAz.lt
      have hst := step false (decide_eq_false (by omega)) z hz
      have hB5 : OwnL w5 g6 4 (.slice (some ⟨g6, 0, none⟩) A.length A.length) B := OwnL.ext hB hE5
      have hN5 : OwnS w5 wk.heap.size (.slice qm (txs N).length cm) (txs N) := OwnS.ext hN hE5
      have hrb : rd w5 (pidx (some ⟨g6, 0, none⟩) ((srk z : Nat) : Int).toNat 1) = some (.bool (B.getD (srk z) false)) := by
        rw [Int.toNat_natCast]
        exact Bls.rd (OwnL.bls hB5) (by omega)
      repeat' (first|refine za ?_|refine zA ?_|refine zB ?_|refine zb ?_|refine zc ?_|refine ze ?_|refine zd ?_|refine zC ?_|refine zD ?_|refine zE ?_|refine zF ?_|refine zG ?_|refine zH ?_|refine zI ?_|refine zJ ?_|refine zK ?_|refine zL ?_|refine zM ?_|refine zN ?_|refine zO ?_|refine zP ?_|refine zQ ?_|refine zR ?_|refine zS ?_|refine zU ?_|refine zV ?_|refine zW ?_|refine zt (fun hcd => ?_) (fun hcd => ?_)|refine zu (fun hcd => ?_) (fun hcd => ?_)|refine zX ?_|refine zY ?_|refine zv (fun hcd => ?_) (fun hcd => ?_)|refine zk ?_|refine zl ?_|refine zm ?_|refine zn ?_|refine zf ?_|refine zg ?_|refine zj ?_|refine zZ ?_|refine zh ?_|refine zi ?_|refine zo ?_|refine zp ?_|refine zq ?_|refine zr ?_|refine zs ?_)
      (refine r_call_q (v := ?_) rfl ?_ ?_; rotate_left 1; focus exact ixR_any _ A (srk z) z.text w5 (hSj.ext hE5) hAz)
      cases hBz : B.getD (srk z) false with
      | true =>
        rw [hBz] at hrb
        repeat' (first|refine za ?_|refine zA ?_|refine zB ?_|refine zb ?_|refine zc ?_|refine ze ?_|refine zd ?_|refine zC ?_|refine zD ?_|refine zE ?_|refine zF ?_|refine zG ?_|refine zH ?_|refine zI ?_|refine zJ ?_|refine zK ?_|refine zL ?_|refine zM ?_|refine zN ?_|refine zO ?_|refine zP ?_|refine zQ ?_|refine zR ?_|refine zS ?_|refine zU ?_|refine zV ?_|refine zW ?_|refine zt (fun hcd => ?_) (fun hcd => ?_)|refine zu (fun hcd => ?_) (fun hcd => ?_)|refine zX ?_|refine zY ?_|refine zv (fun hcd => ?_) (fun hcd => ?_)|refine zk ?_|refine zl ?_|refine zm ?_|refine zn ?_|refine zf ?_|refine zg ?_|refine zj ?_|refine zZ ?_|refine zh ?_|refine zi ?_|refine zo ?_|refine zp ?_|refine zq ?_|refine zr ?_|refine zs ?_)
        exact ⟨k + 1, .slice qm (txs N).length cm, N, B, ⟨rfl, rfl, trivial⟩, ⟨by omega, hC5, hB5, hN5, hD.skip fun z' hz' => by
          rw [hst] at hz'
          cases hz'
          exact ⟨hzx, hBz⟩⟩, by omega⟩
      | false =>
        rw [hBz] at hrb
        repeat' (first|refine za ?_|refine zA ?_|refine zB ?_|refine zb ?_|refine zc ?_|refine ze ?_|refine zd ?_|refine zC ?_|refine zD ?_|refine zE ?_|refine zF ?_|refine zG ?_|refine zH ?_|refine zI ?_|refine zJ ?_|refine zK ?_|refine zL ?_|refine zM ?_|refine zN ?_|refine zO ?_|refine zP ?_|refine zQ ?_|refine zR ?_|refine zS ?_|refine zU ?_|refine zV ?_|refine zW ?_|refine zt (fun hcd => ?_) (fun hcd => ?_)|refine zu (fun hcd => ?_) (fun hcd => ?_)|refine zX ?_|refine zY ?_|refine zv (fun hcd => ?_) (fun hcd => ?_)|refine zk ?_|refine zl ?_|refine zm ?_|refine zn ?_|refine zf ?_|refine zg ?_|refine zj ?_|refine zZ ?_|refine zh ?_|refine zi ?_|refine zo ?_|refine zp ?_|refine zq ?_|refine zr ?_|refine zs ?_)
        (refine r_call_q (v := ?_) rfl ?_ ?_; rotate_left 1; focus exact ixR_any _ A (srk z) z.text w5 (hSj.ext hE5) hAz)
        repeat' (first|refine za ?_|refine zA ?_|refine zB ?_|refine zb ?_|refine zc ?_|refine ze ?_|refine zd ?_|refine zC ?_|refine zD ?_|refine zE ?_|refine zF ?_|refine zG ?_|refine zH ?_|refine zI ?_|refine zJ ?_|refine zK ?_|refine zL ?_|refine zM ?_|refine zN ?_|refine zO ?_|refine zP ?_|refine zQ ?_|refine zR ?_|refine zS ?_|refine zU ?_|refine zV ?_|refine zW ?_|refine zt (fun hcd => ?_) (fun hcd => ?_)|refine zu (fun hcd => ?_) (fun hcd => ?_)|refine zX ?_|refine zY ?_|refine zv (fun hcd => ?_) (fun hcd => ?_)|refine zk ?_|refine zl ?_|refine zm ?_|refine zn ?_|refine zf ?_|refine zg ?_|refine zj ?_|refine zZ ?_|refine zh ?_|refine zi ?_|refine zo ?_|refine zp ?_|refine zq ?_|refine zr ?_|refine zs ?_)
        refine r_st_b (i := srk z) (e := 4) (base := g6) (by kernel_rfl) hB5 rfl rfl (by omega) fun w6 hB6 hg6' hs6 => ?_
        have hC6 : Ch (fun k => k = g6) w5 w6 := Ch.grown hg6' fun g hg => by simpa [Value.ownBlock] using hg.symm
        have hN6 : OwnS w6 wk.heap.size (.slice qm (txs N).length cm) (txs N) := Gv.ownsRow_keep hN5 hC6 fun g h1 h2 => by have := World.ownsRow.lt hN5 g h1; omega
        have hC06 := hC5.trans (hC6.mono fun g _ e => .inl e)
        repeat' (first|refine za ?_|refine zA ?_|refine zB ?_|refine zb ?_|refine zc ?_|refine ze ?_|refine zd ?_|refine zC ?_|refine zD ?_|refine zE ?_|refine zF ?_|refine zG ?_|refine zH ?_|refine zI ?_|refine zJ ?_|refine zK ?_|refine zL ?_|refine zM ?_|refine zN ?_|refine zO ?_|refine zP ?_|refine zQ ?_|refine zR ?_|refine zS ?_|refine zU ?_|refine zV ?_|refine zW ?_|refine zt (fun hcd => ?_) (fun hcd => ?_)|refine zu (fun hcd => ?_) (fun hcd => ?_)|refine zX ?_|refine zY ?_|refine zv (fun hcd => ?_) (fun hcd => ?_)|refine zk ?_|refine zl ?_|refine zm ?_|refine zn ?_|refine zf ?_|refine zg ?_|refine zj ?_|refine zZ ?_|refine zh ?_|refine zi ?_|refine zo ?_|refine zp ?_|refine zq ?_|refine zr ?_|refine zs ?_)
        refine r_append1_v (u := str z.text) el32 rfl (by decide) hN6.own rfl rfl rfl (by rw [strs_len]; omega) hC06.size fun v' w' q' g1 g2 g3 g4 => ?_
        have hC7 : Ch (fun g => (Value.slice qm (txs N).length cm).ownBlock = some g) w6 w' := Ch.grown g2 fun g hg => hg
        have hB7 : OwnL w' g6 4 (.slice (some ⟨g6, 0, none⟩) A.length A.length) (B.set (srk z) true) := Gv.ownsRow_keep hB6 hC7 fun g h1 h2 => by
          have e1 : g6 = g := by simpa [Value.ownBlock] using h1
          have := World.ownsRow.lt hN6 g h2
          omega
        repeat' (first|refine za ?_|refine zA ?_|refine zB ?_|refine zb ?_|refine zc ?_|refine ze ?_|refine zd ?_|refine zC ?_|refine zD ?_|refine zE ?_|refine zF ?_|refine zG ?_|refine zH ?_|refine zI ?_|refine zJ ?_|refine zK ?_|refine zL ?_|refine zM ?_|refine zN ?_|refine zO ?_|refine zP ?_|refine zQ ?_|refine zR ?_|refine zS ?_|refine zU ?_|refine zV ?_|refine zW ?_|refine zt (fun hcd => ?_) (fun hcd => ?_)|refine zu (fun hcd => ?_) (fun hcd => ?_)|refine zX ?_|refine zY ?_|refine zv (fun hcd => ?_) (fun hcd => ?_)|refine zk ?_|refine zl ?_|refine zm ?_|refine zn ?_|refine zf ?_|refine zg ?_|refine zj ?_|refine zZ ?_|refine zh ?_|refine zi ?_|refine zo ?_|refine zp ?_|refine zq ?_|refine zr ?_|refine zs ?_)
        exact ⟨k + 1, v', N ++ [z], B.set (srk z) true, ⟨rfl, rfl, trivial⟩, ⟨by omega, hC06.trans (hC7.mono fun g _ e => .inr (World.ownsRow.lt hN6 g e).1), hB7, OwnS.of (by rw [txs, List.map_append, strs, List.map_append]; exact g1), hD.add hts htd hkx hst hBz⟩, by omega⟩
end Go.Proofs.Ytkdakleckdkhiaa
