/- bags: newSharing, shared. -/
import Derived.Test.YtibegggcinonkaaGi
namespace Go.Proofs.Ytibegggcinonkaa
open Gv
theorem built89 (n most whole : Int) (q' q : Option Addr) (a' c' a c : Nat) : Try.prog.built 89 [(0, .agg #[.int .i64 n, .slice q' a' c']), (1, .int .i64 most), (2, .int .i64 whole), (3, .slice q a c)] =
    some (.int .i64 n :: .slice q' a' c' :: .int .i64 most :: .int .i64 whole :: .slice q a c :: ints (List.replicate 16 0)).toArray := by kernel_rfl
theorem fo48_0 : fldOff Try.prog 48 0 = some 0 := by kernel_rfl
theorem fo48_1 : fldOff Try.prog 48 1 = some 1 := by kernel_rfl
set_option maxRecDepth 20000 in
set_option maxHeartbeats 4000000 in
theorem newSharing_any (n num den : Int) (ve : Value) (L : List (Int × Int)) (w : World) (h : Pairs2 w ve L) (hl : L.length ≤ 1000) (hel : ∀ g, ve.ownBlock = some g → g < w.heap.size) :
    Calls Try.prog 56 #[.agg #[.int .i64 n, ve], .agg #[.int .i64 num, .int .i64 den]] w (Ret fun v w' => ∃ b q c, v = .pointer (some ⟨b, 0, none⟩) ∧ ShW w' b w.heap.size n num den ve q c L (List.replicate L.length (0, 0)) (List.replicate 16 0) ∧ Ext w w') := by
  obtain ⟨qe, ce, rfl, hqe⟩ := h.slice
  refine calls_of_wc (args := [.agg #[.int .i64 n, .slice qe L.length ce], .agg #[.int .i64 num, .int .i64 den]]) Try.func56 rfl ?_ ?_; kernel_rfl
  repeat' (first|refine za ?_|refine zA ?_|refine zB ?_|refine zb ?_|refine zc ?_|refine ze ?_|refine zd ?_|refine zC ?_|refine zD ?_|refine zE ?_|refine zF ?_|refine zG ?_|refine zH ?_|refine zI ?_|refine zJ ?_|refine zK ?_|refine zL ?_|refine zM ?_|refine zN ?_|refine zO ?_|refine zP ?_|refine zQ ?_|refine zR ?_|refine zS ?_|refine zU ?_|refine zV ?_|refine zW ?_|refine zt (fun hcd => ?_) (fun hcd => ?_)|refine zu (fun hcd => ?_) (fun hcd => ?_)|refine zX ?_|refine zY ?_|refine zv (fun hcd => ?_) (fun hcd => ?_)|refine zk ?_|refine zl ?_|refine zm ?_|refine zn ?_|refine zf ?_|refine zg ?_|refine zj ?_|refine zZ ?_|refine zh ?_|refine zi ?_|refine zo ?_|refine zp ?_|refine zq ?_|refine zr ?_|refine zs ?_)
  refine r_boxN (cells := [.int .i64 n, .slice qe L.length ce]) rfl fun w1 hb1 hE1 hs1 => ?_
  obtain ⟨b1, eb1⟩ : ∃ b, b = w.heap.size := ⟨_, rfl⟩
  rw [← eb1] at hb1 ⊢
  repeat' (first|refine za ?_|refine zA ?_|refine zB ?_|refine zb ?_|refine zc ?_|refine ze ?_|refine zd ?_|refine zC ?_|refine zD ?_|refine zE ?_|refine zF ?_|refine zG ?_|refine zH ?_|refine zI ?_|refine zJ ?_|refine zK ?_|refine zL ?_|refine zM ?_|refine zN ?_|refine zO ?_|refine zP ?_|refine zQ ?_|refine zR ?_|refine zS ?_|refine zU ?_|refine zV ?_|refine zW ?_|refine zt (fun hcd => ?_) (fun hcd => ?_)|refine zu (fun hcd => ?_) (fun hcd => ?_)|refine zX ?_|refine zY ?_|refine zv (fun hcd => ?_) (fun hcd => ?_)|refine zk ?_|refine zl ?_|refine zm ?_|refine zn ?_|refine zf ?_|refine zg ?_|refine zj ?_|refine zZ ?_|refine zh ?_|refine zi ?_|refine zo ?_|refine zp ?_|refine zq ?_|refine zr ?_|refine zs ?_)
  refine r_boxN (cells := [.int .i64 num, .int .i64 den]) rfl fun w2 hb2 hE2 hs2 => ?_
  obtain ⟨b2, eb2⟩ : ∃ b, b = w1.heap.size := ⟨_, rfl⟩
  rw [← eb2] at hb2 ⊢
  have hb1 := hb1.ext hE2
  have hE12 := hE1.trans hE2
  have hszd : w2.drew.heap.size = w2.heap.size := rfl
  repeat' (first|refine za ?_|refine zA ?_|refine zB ?_|refine zb ?_|refine zc ?_|refine ze ?_|refine zd ?_|refine zC ?_|refine zD ?_|refine zE ?_|refine zF ?_|refine zG ?_|refine zH ?_|refine zI ?_|refine zJ ?_|refine zK ?_|refine zL ?_|refine zM ?_|refine zN ?_|refine zO ?_|refine zP ?_|refine zQ ?_|refine zR ?_|refine zS ?_|refine zU ?_|refine zV ?_|refine zW ?_|refine zt (fun hcd => ?_) (fun hcd => ?_)|refine zu (fun hcd => ?_) (fun hcd => ?_)|refine zX ?_|refine zY ?_|refine zv (fun hcd => ?_) (fun hcd => ?_)|refine zk ?_|refine zl ?_|refine zm ?_|refine zn ?_|refine zf ?_|refine zg ?_|refine zj ?_|refine zZ ?_|refine zh ?_|refine zi ?_|refine zo ?_|refine zp ?_|refine zq ?_|refine zr ?_|refine zs ?_)
  refine wc_heldB (fun w' => Ext w2 w') (.take 0 (.take 1 (.take 2 (.take 3 (.take 4 (.take 5 (.take 6 (.take 7 (.one 8 (.one 9 (.one 10 (.one 11 .done)))))))))))) (by kernel_rfl) (by kernel_rfl) (Ext.drew w2) ?_
  refine whB_take rfl rfl (fun w' hw' => rv_of rfl (fun _ h => r_ldN (vs := [.int .i64 n, .slice qe L.length ce]) ag72 (by decide) (hb1.ext hw') rfl rfl h) fun _ _ h => val_of h) ?_
  refine whB_take rfl rfl (fun w' hw' => rv_faE (o' := 0) fo48_0 rfl rfl) ?_
  refine whB_take rfl rfl (fun w' hw' => rv_ld rfl rfl ((hb2.ext hw').rd (v := .int .i64 num) rfl)) ?_
  refine whB_take rfl rfl (fun w' hw' => rv_faE (o' := 1) fo48_1 rfl rfl) ?_
  refine whB_take rfl rfl (fun w' hw' => rv_ld rfl rfl ((hb2.ext hw').rd (v := .int .i64 den) rfl)) ?_
  refine whB_take rfl rfl (fun w' hw' => rv_faE (o' := 1) fo72_1 rfl rfl) ?_
  refine whB_take rfl rfl (fun w' hw' => rv_ld rfl rfl ((hb1.ext hw').rd (v := .slice qe L.length ce) rfl)) ?_
  refine whB_take rfl rfl (fun w' hw' => rv_of rfl (fun _ h => r_len rfl rfl h) fun _ _ h => val_of h) ?_
  refine whB_one rfl rfl ?_
  refine r_make_p el49 rfl rfl (by omega) fun w3 hP3 hE3 hs3 => ?_
  have hX3 := (Ext.drew w2).trans hE3
  refine ⟨hX3, whB_one rfl rfl ?_⟩
  refine r_build (built89 n num den _ _ _ _ _ _) ?_
  refine ⟨hX3, whB_one rfl rfl ?_⟩
  refine r_boxN rfl fun w4 hB4 hE4 hs4 => ?_
  obtain ⟨b4, eb4⟩ : ∃ b, b = w3.heap.size := ⟨_, rfl⟩
  rw [← eb4] at hB4 ⊢
  have hX4 := hX3.trans hE4
  refine ⟨hX4, whB_one rfl rfl ?_⟩
  refine r_assign_v (v := .pointer (some ⟨b4, 0, none⟩)) rfl ?_
  refine ⟨hX4, whB_done ?_⟩
  have hE := hE12.trans hX4
  repeat' (first|refine za ?_|refine zA ?_|refine zB ?_|refine zb ?_|refine zc ?_|refine ze ?_|refine zd ?_|refine zC ?_|refine zD ?_|refine zE ?_|refine zF ?_|refine zG ?_|refine zH ?_|refine zI ?_|refine zJ ?_|refine zK ?_|refine zL ?_|refine zM ?_|refine zN ?_|refine zO ?_|refine zP ?_|refine zQ ?_|refine zR ?_|refine zS ?_|refine zU ?_|refine zV ?_|refine zW ?_|refine zt (fun hcd => ?_) (fun hcd => ?_)|refine zu (fun hcd => ?_) (fun hcd => ?_)|refine zX ?_|refine zY ?_|refine zv (fun hcd => ?_) (fun hcd => ?_)|refine zk ?_|refine zl ?_|refine zm ?_|refine zn ?_|refine zf ?_|refine zg ?_|refine zj ?_|refine zZ ?_|refine zh ?_|refine zi ?_|refine zo ?_|refine zp ?_|refine zq ?_|refine zr ?_|refine zs ?_)
  refine post1 (v := .pointer (some ⟨b4, 0, none⟩)) rfl rfl ⟨b4, some ⟨w2.drew.heap.size, 0, none⟩, L.length, rfl, ⟨?_, by simp, ?_, h.ext hE, fun g hg => by have := hel g hg; omega, ?_, by simp⟩, hE⟩
  · rw [List.length_replicate]; exact hB4
  · rw [List.length_replicate]; exact ownsRow_mono (ownsRow_ext hP3 hE4) (by have := hE12.size; omega)
  · omega
/-- What 'shared' returns. -/
def SharR (n num den : Int) (ve : Value) (L : List (Int × Int)) (w w' : World) (v : Value) : Prop :=
  (∃ b q c Sh Ld, v = .tuple #[.pointer (some ⟨b, 0, none⟩), .slice none 0 0] ∧ ShW w' b w.heap.size n num den ve q c L Sh Ld ∧ Shr L Sh Ld num den ∧ ∀ k, k < L.length → sm Sh k = den) ∨
  (∃ S g c, v = .tuple #[.pointer none, .slice (some ⟨g, 0, none⟩) S.length c] ∧ OwnI w' w.heap.size 3 (.slice (some ⟨g, 0, none⟩) S.length c) S ∧ Asc S ∧ 0 < S.length ∧ (∀ v, v ∈ S → 0 ≤ v ∧ v < n) ∧ num * S.length < den * insM L S)
set_option maxRecDepth 20000 in
set_option maxHeartbeats 4000000 in
theorem shared_any (n num den : Int) (ve : Value) (L : List (Int × Int)) (w : World) (h : Pairs2 w ve L) (hl : L.length ≤ 1000) (hel : ∀ g, ve.ownBlock = some g → g < w.heap.size)
    (hG : ∀ k, k < L.length → 0 ≤ (ed L k).1 ∧ (ed L k).1 < (ed L k).2 ∧ (ed L k).2 < n) (hn : 1 ≤ n ∧ n ≤ 16) (hm : 0 ≤ num ∧ num ≤ 1000000) (hw : 0 ≤ den ∧ den ≤ 1000000) :
    Calls Try.prog 46 #[.agg #[.int .i64 n, ve], .agg #[.int .i64 num, .int .i64 den]] w (Ret fun v w' => SharR n num den ve L w w' v ∧ Ext w w') := by
  obtain ⟨qe, ce, rfl, hqe⟩ := h.slice
  refine calls_of_wc (args := [.agg #[.int .i64 n, .slice qe L.length ce], .agg #[.int .i64 num, .int .i64 den]]) Try.func46 rfl ?_ ?_; kernel_rfl
  repeat' (first|refine za ?_|refine zA ?_|refine zB ?_|refine zb ?_|refine zc ?_|refine ze ?_|refine zd ?_|refine zC ?_|refine zD ?_|refine zE ?_|refine zF ?_|refine zG ?_|refine zH ?_|refine zI ?_|refine zJ ?_|refine zK ?_|refine zL ?_|refine zM ?_|refine zN ?_|refine zO ?_|refine zP ?_|refine zQ ?_|refine zR ?_|refine zS ?_|refine zU ?_|refine zV ?_|refine zW ?_|refine zt (fun hcd => ?_) (fun hcd => ?_)|refine zu (fun hcd => ?_) (fun hcd => ?_)|refine zX ?_|refine zY ?_|refine zv (fun hcd => ?_) (fun hcd => ?_)|refine zk ?_|refine zl ?_|refine zm ?_|refine zn ?_|refine zf ?_|refine zg ?_|refine zj ?_|refine zZ ?_|refine zh ?_|refine zi ?_|refine zo ?_|refine zp ?_|refine zq ?_|refine zr ?_|refine zs ?_)
  refine r_boxN (cells := [.int .i64 n, .slice qe L.length ce]) rfl fun w1 hb1 hE1 hs1 => ?_
  obtain ⟨b1, eb1⟩ : ∃ b, b = w.heap.size := ⟨_, rfl⟩
  rw [← eb1] at hb1 ⊢
  repeat' (first|refine za ?_|refine zA ?_|refine zB ?_|refine zb ?_|refine zc ?_|refine ze ?_|refine zd ?_|refine zC ?_|refine zD ?_|refine zE ?_|refine zF ?_|refine zG ?_|refine zH ?_|refine zI ?_|refine zJ ?_|refine zK ?_|refine zL ?_|refine zM ?_|refine zN ?_|refine zO ?_|refine zP ?_|refine zQ ?_|refine zR ?_|refine zS ?_|refine zU ?_|refine zV ?_|refine zW ?_|refine zt (fun hcd => ?_) (fun hcd => ?_)|refine zu (fun hcd => ?_) (fun hcd => ?_)|refine zX ?_|refine zY ?_|refine zv (fun hcd => ?_) (fun hcd => ?_)|refine zk ?_|refine zl ?_|refine zm ?_|refine zn ?_|refine zf ?_|refine zg ?_|refine zj ?_|refine zZ ?_|refine zh ?_|refine zi ?_|refine zo ?_|refine zp ?_|refine zq ?_|refine zr ?_|refine zs ?_)
  refine r_boxN (cells := [.int .i64 num, .int .i64 den]) rfl fun w2 hb2 hE2 hs2 => ?_
  obtain ⟨b2, eb2⟩ : ∃ b, b = w1.heap.size := ⟨_, rfl⟩
  rw [← eb2] at hb2 ⊢
  have hb1 := hb1.ext hE2
  have hE12 := hE1.trans hE2
  repeat' (first|refine za ?_|refine zA ?_|refine zB ?_|refine zb ?_|refine zc ?_|refine ze ?_|refine zd ?_|refine zC ?_|refine zD ?_|refine zE ?_|refine zF ?_|refine zG ?_|refine zH ?_|refine zI ?_|refine zJ ?_|refine zK ?_|refine zL ?_|refine zM ?_|refine zN ?_|refine zO ?_|refine zP ?_|refine zQ ?_|refine zR ?_|refine zS ?_|refine zU ?_|refine zV ?_|refine zW ?_|refine zt (fun hcd => ?_) (fun hcd => ?_)|refine zu (fun hcd => ?_) (fun hcd => ?_)|refine zX ?_|refine zY ?_|refine zv (fun hcd => ?_) (fun hcd => ?_)|refine zk ?_|refine zl ?_|refine zm ?_|refine zn ?_|refine zf ?_|refine zg ?_|refine zj ?_|refine zZ ?_|refine zh ?_|refine zi ?_|refine zo ?_|refine zp ?_|refine zq ?_|refine zr ?_|refine zs ?_)
  refine r_ldN (vs := [.int .i64 n, .slice qe L.length ce]) ag72 (by decide) hb1 rfl rfl ?_
  repeat' (first|refine za ?_|refine zA ?_|refine zB ?_|refine zb ?_|refine zc ?_|refine ze ?_|refine zd ?_|refine zC ?_|refine zD ?_|refine zE ?_|refine zF ?_|refine zG ?_|refine zH ?_|refine zI ?_|refine zJ ?_|refine zK ?_|refine zL ?_|refine zM ?_|refine zN ?_|refine zO ?_|refine zP ?_|refine zQ ?_|refine zR ?_|refine zS ?_|refine zU ?_|refine zV ?_|refine zW ?_|refine zt (fun hcd => ?_) (fun hcd => ?_)|refine zu (fun hcd => ?_) (fun hcd => ?_)|refine zX ?_|refine zY ?_|refine zv (fun hcd => ?_) (fun hcd => ?_)|refine zk ?_|refine zl ?_|refine zm ?_|refine zn ?_|refine zf ?_|refine zg ?_|refine zj ?_|refine zZ ?_|refine zh ?_|refine zi ?_|refine zo ?_|refine zp ?_|refine zq ?_|refine zr ?_|refine zs ?_)
  refine r_ldN (vs := [.int .i64 num, .int .i64 den]) ag48 (by decide) hb2 rfl rfl ?_
  repeat' (first|refine za ?_|refine zA ?_|refine zB ?_|refine zb ?_|refine zc ?_|refine ze ?_|refine zd ?_|refine zC ?_|refine zD ?_|refine zE ?_|refine zF ?_|refine zG ?_|refine zH ?_|refine zI ?_|refine zJ ?_|refine zK ?_|refine zL ?_|refine zM ?_|refine zN ?_|refine zO ?_|refine zP ?_|refine zQ ?_|refine zR ?_|refine zS ?_|refine zU ?_|refine zV ?_|refine zW ?_|refine zt (fun hcd => ?_) (fun hcd => ?_)|refine zu (fun hcd => ?_) (fun hcd => ?_)|refine zX ?_|refine zY ?_|refine zv (fun hcd => ?_) (fun hcd => ?_)|refine zk ?_|refine zl ?_|refine zm ?_|refine zn ?_|refine zf ?_|refine zg ?_|refine zj ?_|refine zZ ?_|refine zh ?_|refine zi ?_|refine zo ?_|refine zp ?_|refine zq ?_|refine zr ?_|refine zs ?_)
  (refine r_call (R := ?_) rfl ?_ ?_; rotate_left 1; focus exact newSharing_any n num den _ L w2 (h.ext hE12) hl (fun g hg => by have := hel g hg; have := hE12.size; omega))
  rintro _ w3 ⟨b, q, c, rfl, hW, hE3⟩
  repeat' (first|refine za ?_|refine zA ?_|refine zB ?_|refine zb ?_|refine zc ?_|refine ze ?_|refine zd ?_|refine zC ?_|refine zD ?_|refine zE ?_|refine zF ?_|refine zG ?_|refine zH ?_|refine zI ?_|refine zJ ?_|refine zK ?_|refine zL ?_|refine zM ?_|refine zN ?_|refine zO ?_|refine zP ?_|refine zQ ?_|refine zR ?_|refine zS ?_|refine zU ?_|refine zV ?_|refine zW ?_|refine zt (fun hcd => ?_) (fun hcd => ?_)|refine zu (fun hcd => ?_) (fun hcd => ?_)|refine zX ?_|refine zY ?_|refine zv (fun hcd => ?_) (fun hcd => ?_)|refine zk ?_|refine zl ?_|refine zm ?_|refine zn ?_|refine zf ?_|refine zg ?_|refine zj ?_|refine zZ ?_|refine zh ?_|refine zi ?_|refine zo ?_|refine zp ?_|refine zq ?_|refine zr ?_|refine zs ?_)
  refine r_faE (o' := 1) fo72_1 rfl rfl ?_
  repeat' (first|refine za ?_|refine zA ?_|refine zB ?_|refine zb ?_|refine zc ?_|refine ze ?_|refine zd ?_|refine zC ?_|refine zD ?_|refine zE ?_|refine zF ?_|refine zG ?_|refine zH ?_|refine zI ?_|refine zJ ?_|refine zK ?_|refine zL ?_|refine zM ?_|refine zN ?_|refine zO ?_|refine zP ?_|refine zQ ?_|refine zR ?_|refine zS ?_|refine zU ?_|refine zV ?_|refine zW ?_|refine zt (fun hcd => ?_) (fun hcd => ?_)|refine zu (fun hcd => ?_) (fun hcd => ?_)|refine zX ?_|refine zY ?_|refine zv (fun hcd => ?_) (fun hcd => ?_)|refine zk ?_|refine zl ?_|refine zm ?_|refine zn ?_|refine zf ?_|refine zg ?_|refine zj ?_|refine zZ ?_|refine zh ?_|refine zi ?_|refine zo ?_|refine zp ?_|refine zq ?_|refine zr ?_|refine zs ?_)
  refine r_ld rfl rfl ((hb1.ext hE3).rd (v := .slice qe L.length ce) rfl) ?_
  repeat' (first|refine za ?_|refine zA ?_|refine zB ?_|refine zb ?_|refine zc ?_|refine ze ?_|refine zd ?_|refine zC ?_|refine zD ?_|refine zE ?_|refine zF ?_|refine zG ?_|refine zH ?_|refine zI ?_|refine zJ ?_|refine zK ?_|refine zL ?_|refine zM ?_|refine zN ?_|refine zO ?_|refine zP ?_|refine zQ ?_|refine zR ?_|refine zS ?_|refine zU ?_|refine zV ?_|refine zW ?_|refine zt (fun hcd => ?_) (fun hcd => ?_)|refine zu (fun hcd => ?_) (fun hcd => ?_)|refine zX ?_|refine zY ?_|refine zv (fun hcd => ?_) (fun hcd => ?_)|refine zk ?_|refine zl ?_|refine zm ?_|refine zn ?_|refine zf ?_|refine zg ?_|refine zj ?_|refine zZ ?_|refine zh ?_|refine zi ?_|refine zo ?_|refine zp ?_|refine zq ?_|refine zr ?_|refine zs ?_)
  refine wc_loop3 [6, 14] (fun (i : Nat) (_ : List (Int × Int)) (_ : List Int) => [(15, .int .i64 i)]) (fun i Sh Ld wk => i ≤ L.length ∧ ShW wk b w2.heap.size n num den (.slice qe L.length ce) q c L Sh Ld ∧ Shr L Sh Ld num den ∧ (∀ k, k < i → sm Sh k = den) ∧ Ext w2 wk) (fun i _ _ => L.length - i) 0 _ _ rfl ⟨rfl, trivial⟩
    ⟨by omega, hW, Shr.zero hm.1 hw.1, fun k hk => by omega, hE3⟩ ?_
  rintro i Sh Ld wk x ⟨hi, hWk, hS, hgiven, hEk⟩
  by_cases hin : i < L.length
  · repeat' (first|refine za ?_|refine zA ?_|refine zB ?_|refine zb ?_|refine zc ?_|refine ze ?_|refine zd ?_|refine zC ?_|refine zD ?_|refine zE ?_|refine zF ?_|refine zG ?_|refine zH ?_|refine zI ?_|refine zJ ?_|refine zK ?_|refine zL ?_|refine zM ?_|refine zN ?_|refine zO ?_|refine zP ?_|refine zQ ?_|refine zR ?_|refine zS ?_|refine zU ?_|refine zV ?_|refine zW ?_|refine zt (fun hcd => ?_) (fun hcd => ?_)|refine zu (fun hcd => ?_) (fun hcd => ?_)|refine zX ?_|refine zY ?_|refine zv (fun hcd => ?_) (fun hcd => ?_)|refine zk ?_|refine zl ?_|refine zm ?_|refine zn ?_|refine zf ?_|refine zg ?_|refine zj ?_|refine zZ ?_|refine zh ?_|refine zi ?_|refine zo ?_|refine zp ?_|refine zq ?_|refine zr ?_|refine zs ?_)
    (refine r_call (R := ?_) rfl ?_ ?_; rotate_left 1; focus exact give_any _ b _ n num den _ q c L Sh Ld hWk hS hG hn hl i hin hm hw)
    rintro v wm ⟨Sh', Ld', hWm, hSm, hsm, hCm, hR⟩
    have hEm : Ext w2 wm := Ch.trans' hEk hCm fun k hk e => by
      rcases e with rfl | e
      · have := hWk.bblk; omega
      · rw [← hWk.len] at e; have := (hWk.ne e).1; omega
    rcases hR with ⟨rfl, hsi⟩ | ⟨S, hOS, ⟨g, cg, rfl⟩, hAsc, hpos, hclo, hbi, hlt⟩
    · repeat' (first|refine za ?_|refine zA ?_|refine zB ?_|refine zb ?_|refine zc ?_|refine ze ?_|refine zd ?_|refine zC ?_|refine zD ?_|refine zE ?_|refine zF ?_|refine zG ?_|refine zH ?_|refine zI ?_|refine zJ ?_|refine zK ?_|refine zL ?_|refine zM ?_|refine zN ?_|refine zO ?_|refine zP ?_|refine zQ ?_|refine zR ?_|refine zS ?_|refine zU ?_|refine zV ?_|refine zW ?_|refine zt (fun hcd => ?_) (fun hcd => ?_)|refine zu (fun hcd => ?_) (fun hcd => ?_)|refine zX ?_|refine zY ?_|refine zv (fun hcd => ?_) (fun hcd => ?_)|refine zk ?_|refine zl ?_|refine zm ?_|refine zn ?_|refine zf ?_|refine zg ?_|refine zj ?_|refine zZ ?_|refine zh ?_|refine zi ?_|refine zo ?_|refine zp ?_|refine zq ?_|refine zr ?_|refine zs ?_)
      refine r_neqnil_f rfl rfl rfl ?_
      repeat' (first|refine za ?_|refine zA ?_|refine zB ?_|refine zb ?_|refine zc ?_|refine ze ?_|refine zd ?_|refine zC ?_|refine zD ?_|refine zE ?_|refine zF ?_|refine zG ?_|refine zH ?_|refine zI ?_|refine zJ ?_|refine zK ?_|refine zL ?_|refine zM ?_|refine zN ?_|refine zO ?_|refine zP ?_|refine zQ ?_|refine zR ?_|refine zS ?_|refine zU ?_|refine zV ?_|refine zW ?_|refine zt (fun hcd => ?_) (fun hcd => ?_)|refine zu (fun hcd => ?_) (fun hcd => ?_)|refine zX ?_|refine zY ?_|refine zv (fun hcd => ?_) (fun hcd => ?_)|refine zk ?_|refine zl ?_|refine zm ?_|refine zn ?_|refine zf ?_|refine zg ?_|refine zj ?_|refine zZ ?_|refine zh ?_|refine zi ?_|refine zo ?_|refine zp ?_|refine zq ?_|refine zr ?_|refine zs ?_)
      refine ⟨i + 1, Sh', Ld', ⟨rfl, trivial⟩, ⟨by omega, hWm, hSm, fun k hk => ?_, hEm⟩, by omega⟩
      by_cases e : k = i
      · subst e; exact hsi
      · rw [hsm k (by omega) e]; exact hgiven k (by omega)
    · repeat' (first|refine za ?_|refine zA ?_|refine zB ?_|refine zb ?_|refine zc ?_|refine ze ?_|refine zd ?_|refine zC ?_|refine zD ?_|refine zE ?_|refine zF ?_|refine zG ?_|refine zH ?_|refine zI ?_|refine zJ ?_|refine zK ?_|refine zL ?_|refine zM ?_|refine zN ?_|refine zO ?_|refine zP ?_|refine zQ ?_|refine zR ?_|refine zS ?_|refine zU ?_|refine zV ?_|refine zW ?_|refine zt (fun hcd => ?_) (fun hcd => ?_)|refine zu (fun hcd => ?_) (fun hcd => ?_)|refine zX ?_|refine zY ?_|refine zv (fun hcd => ?_) (fun hcd => ?_)|refine zk ?_|refine zl ?_|refine zm ?_|refine zn ?_|refine zf ?_|refine zg ?_|refine zj ?_|refine zZ ?_|refine zh ?_|refine zi ?_|refine zo ?_|refine zp ?_|refine zq ?_|refine zr ?_|refine zs ?_)
      refine r_neqnil_t rfl rfl rfl rfl ?_
      repeat' (first|refine za ?_|refine zA ?_|refine zB ?_|refine zb ?_|refine zc ?_|refine ze ?_|refine zd ?_|refine zC ?_|refine zD ?_|refine zE ?_|refine zF ?_|refine zG ?_|refine zH ?_|refine zI ?_|refine zJ ?_|refine zK ?_|refine zL ?_|refine zM ?_|refine zN ?_|refine zO ?_|refine zP ?_|refine zQ ?_|refine zR ?_|refine zS ?_|refine zU ?_|refine zV ?_|refine zW ?_|refine zt (fun hcd => ?_) (fun hcd => ?_)|refine zu (fun hcd => ?_) (fun hcd => ?_)|refine zX ?_|refine zY ?_|refine zv (fun hcd => ?_) (fun hcd => ?_)|refine zk ?_|refine zl ?_|refine zm ?_|refine zn ?_|refine zf ?_|refine zg ?_|refine zj ?_|refine zZ ?_|refine zh ?_|refine zi ?_|refine zo ?_|refine zp ?_|refine zq ?_|refine zr ?_|refine zs ?_)
      refine post2 (v1 := .pointer none) (v2 := .slice (some ⟨g, 0, none⟩) S.length cg) rfl rfl rfl ⟨.inr ⟨S, g, cg, rfl, ownsRow_mono hOS ?_, hAsc, hpos, hclo.rng, hclo.denser hSm hn.2 hAsc.nodup hin hbi hlt⟩, hE12.trans hEm⟩
      have := hEk.size; have := hE12.size; omega
  · have : i = L.length := by omega
    subst this
    repeat' (first|refine za ?_|refine zA ?_|refine zB ?_|refine zb ?_|refine zc ?_|refine ze ?_|refine zd ?_|refine zC ?_|refine zD ?_|refine zE ?_|refine zF ?_|refine zG ?_|refine zH ?_|refine zI ?_|refine zJ ?_|refine zK ?_|refine zL ?_|refine zM ?_|refine zN ?_|refine zO ?_|refine zP ?_|refine zQ ?_|refine zR ?_|refine zS ?_|refine zU ?_|refine zV ?_|refine zW ?_|refine zt (fun hcd => ?_) (fun hcd => ?_)|refine zu (fun hcd => ?_) (fun hcd => ?_)|refine zX ?_|refine zY ?_|refine zv (fun hcd => ?_) (fun hcd => ?_)|refine zk ?_|refine zl ?_|refine zm ?_|refine zn ?_|refine zf ?_|refine zg ?_|refine zj ?_|refine zZ ?_|refine zh ?_|refine zi ?_|refine zo ?_|refine zp ?_|refine zq ?_|refine zr ?_|refine zs ?_)
    have hsz := hE12.size
    refine post2 (v1 := .pointer (some ⟨b, 0, none⟩)) (v2 := .slice none 0 0) rfl rfl rfl ⟨.inl ⟨b, q, c, Sh, Ld, rfl, ⟨hWk.blk, hWk.ldlen, ownsRow_mono hWk.own hsz, hWk.edg, hel, by have := hWk.bblk; omega, hWk.len⟩, hS, hgiven⟩, hE12.trans hEk⟩
end Go.Proofs.Ytibegggcinonkaa
