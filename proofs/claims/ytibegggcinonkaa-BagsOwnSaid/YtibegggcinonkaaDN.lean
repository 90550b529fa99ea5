/- bags: Densest. -/
import Derived.Test.YtibegggcinonkaaFu
import Derived.Test.YtibegggcinonkaaPG
import Derived.Test.YtibegggcinonkaaIs
namespace Go.Proofs.Ytibegggcinonkaa
open Gv
theorem post_tctt {P : Program} {fn : Func} {R : Value → World → Prop} {ρ : Env} {w : World} {n a c u s b : Nat} {t t' : TypeId} {vs : List Value} {va vu vs' : Value} (h : fn.results = #[.tmp a, .cell c t, .tmp u, .tmp s]) (ha : ρ a = va) (hc : ρ c = .pointer (some ⟨b, 0, none⟩)) (hu : ρ u = vu) (hs : ρ s = vs') (hsz : aggT P t n = true) (h0 : 0 < n) (hb : Blk w b t' vs) (hl : vs.length = n)
    (hR : R (.tuple #[va, .agg vs.toArray, vu, vs']) w) (hm : ρ 1000000 = mkv [] := by exact rfl) (ha' : a ≠ 1000000 := by decide) (hc' : c ≠ 1000000 := by decide) (hu' : u ≠ 1000000 := by decide) (hs' : s ≠ 1000000 := by decide) : post P fn R .ret ρ w := by
  refine postM hm (fun tmps ht => ?_) hR
  have h1 := ht c hc'
  have h2 := ht u hu'
  have h3 := ht a ha'
  have h4 := ht s hs'
  simp only [Array.getD_eq_getD_getElem?] at h1 h2 h3 h4
  simp [results, h, h1, h2, h3, h4, hc, hu, ha, hs, asAddr, run_loadVarN hsz h0 hb hl]
theorem insE_insM {L : List (Int × Int)} {S : List Int} : ((insE L S L.length : Nat) : Int) = insM L S := by
  have hin : ∀ a, inS S a ↔ a ∈ S := fun a => ⟨fun ⟨i, hi, e⟩ => e ▸ getD_memI hi, fun h => by
    obtain ⟨i, hi, rfl⟩ := List.getElem_of_mem h
    exact ⟨i, hi, getD_lt hi⟩⟩
  unfold insM
  have : ∀ k, ((insE L S k : Nat) : Int) = sumTo (fun k => if bothIn L S k then 1 else 0) k := fun k => by
    induction k with
    | zero => rfl
    | succ k ih =>
      rw [insE, sumTo, Int.natCast_add, ih]
      by_cases c : bothIn L S k
      · rw [if_pos c, if_pos ⟨(hin _).2 c.1, (hin _).2 c.2⟩]; rfl
      · rw [if_neg c, if_neg fun c' => c ⟨(hin _).1 c'.1, (hin _).1 c'.2⟩]; rfl
  exact this _
theorem IsG.ed {n : Int} {L : List (Int × Int)} (h : IsG n L) : (∀ k, k < L.length → 0 ≤ (ed L k).1 ∧ (ed L k).1 < (ed L k).2 ∧ (ed L k).2 < n) := fun k hk => (h.2.2 k hk).1
theorem IsG.len {n : Int} {L : List (Int × Int)} (h : IsG n L) : L.length ≤ 120 := by
  have h1 := h.2.1
  have : n * (n - 1) ≤ 16 * 15 := Int.mul_le_mul (by have := h.1; omega) (by have := h.1; omega) (by have := h.1; omega) (by omega)
  omega
/-- The density's parts. -/
def dnum (L : List (Int × Int)) (S : List Int) : Nat := insE L S L.length / Nat.gcd (insE L S L.length) S.length
def dden (L : List (Int × Int)) (S : List Int) : Nat := S.length / Nat.gcd (insE L S L.length) S.length
/-- What Densest returns. -/
def DensR (n : Int) (L : List (Int × Int)) (w w' : World) (v : Value) : Prop :=
  if IsG n L then ∃ S Sh vs vsh, v = .tuple #[vs, .agg #[.int .i64 (dnum L S : Int), .int .i64 (dden L S : Int)], vsh, .int .i64 0] ∧ OwnI w' w.heap.size 3 vs S ∧ OwnP w' w.heap.size 42 vsh Sh ∧ (∀ g, vs.ownBlock = some g → vsh.ownBlock ≠ some g) ∧ Dens n L S ∧ ShOk L Sh (dnum L S) (dden L S)
  else v = .tuple #[.slice none 0 0, .agg #[.int .i64 0, .int .i64 0], .slice none 0 0, .int .i64 2]
theorem built48z : Try.prog.built 48 [] = some #[.int .i64 0, .int .i64 0] := by kernel_rfl
set_option maxRecDepth 20000 in
set_option maxHeartbeats 8000000 in
theorem densest_any (n : Int) (ve : Value) (L : List (Int × Int)) (w : World) (h : Pairs2 w ve L) (hl : L.length ≤ 1000) (hel : ∀ g, ve.ownBlock = some g → g < w.heap.size) :
    Calls Try.prog 28 #[.int .i64 n, ve] w (Ret fun v w' => DensR n L w w' v ∧ Ext w w') := by
  obtain ⟨qe, ce, rfl, hqe⟩ := h.slice
  refine calls_of_wc (args := [.int .i64 n, .slice qe L.length ce]) Try.func28 rfl ?_ ?_; kernel_rfl
  repeat' (first|refine za ?_|refine zA ?_|refine zB ?_|refine zb ?_|refine zc ?_|refine ze ?_|refine zd ?_|refine zC ?_|refine zD ?_|refine zE ?_|refine zF ?_|refine zG ?_|refine zH ?_|refine zI ?_|refine zJ ?_|refine zK ?_|refine zL ?_|refine zM ?_|refine zN ?_|refine zO ?_|refine zP ?_|refine zQ ?_|refine zR ?_|refine zS ?_|refine zU ?_|refine zV ?_|refine zW ?_|refine zt (fun hcd => ?_) (fun hcd => ?_)|refine zu (fun hcd => ?_) (fun hcd => ?_)|refine zX ?_|refine zY ?_|refine zv (fun hcd => ?_) (fun hcd => ?_)|refine zk ?_|refine zl ?_|refine zm ?_|refine zn ?_|refine zf ?_|refine zg ?_|refine zj ?_|refine zZ ?_|refine zh ?_|refine zi ?_|refine zo ?_|refine zp ?_|refine zq ?_|refine zr ?_|refine zs ?_)
  refine r_allocN z48 fun w1 hb1 hE1 hs1 => ?_
  obtain ⟨b5, eb5⟩ : ∃ b, b = w.heap.size := ⟨_, rfl⟩
  rw [← eb5] at hb1 ⊢
  repeat' (first|refine za ?_|refine zA ?_|refine zB ?_|refine zb ?_|refine zc ?_|refine ze ?_|refine zd ?_|refine zC ?_|refine zD ?_|refine zE ?_|refine zF ?_|refine zG ?_|refine zH ?_|refine zI ?_|refine zJ ?_|refine zK ?_|refine zL ?_|refine zM ?_|refine zN ?_|refine zO ?_|refine zP ?_|refine zQ ?_|refine zR ?_|refine zS ?_|refine zU ?_|refine zV ?_|refine zW ?_|refine zt (fun hcd => ?_) (fun hcd => ?_)|refine zu (fun hcd => ?_) (fun hcd => ?_)|refine zX ?_|refine zY ?_|refine zv (fun hcd => ?_) (fun hcd => ?_)|refine zk ?_|refine zl ?_|refine zm ?_|refine zn ?_|refine zf ?_|refine zg ?_|refine zj ?_|refine zZ ?_|refine zh ?_|refine zi ?_|refine zo ?_|refine zp ?_|refine zq ?_|refine zr ?_|refine zs ?_)
  (refine r_call (R := ?_) rfl ?_ ?_; rotate_left 1; focus exact newGraph_any n _ L _ (h.ext hE1) hl)
  rintro v w2 ⟨rfl, hE2⟩
  have hb2 := hb1.ext hE2
  have hE02 := hE1.trans hE2
  by_cases hG : IsG n L
  rotate_left 1
  · rw [if_neg hG]
    repeat' (first|refine za ?_|refine zA ?_|refine zB ?_|refine zb ?_|refine zc ?_|refine ze ?_|refine zd ?_|refine zC ?_|refine zD ?_|refine zE ?_|refine zF ?_|refine zG ?_|refine zH ?_|refine zI ?_|refine zJ ?_|refine zK ?_|refine zL ?_|refine zM ?_|refine zN ?_|refine zO ?_|refine zP ?_|refine zQ ?_|refine zR ?_|refine zS ?_|refine zU ?_|refine zV ?_|refine zW ?_|refine zt (fun hcd => ?_) (fun hcd => ?_)|refine zu (fun hcd => ?_) (fun hcd => ?_)|refine zX ?_|refine zY ?_|refine zv (fun hcd => ?_) (fun hcd => ?_)|refine zk ?_|refine zl ?_|refine zm ?_|refine zn ?_|refine zf ?_|refine zg ?_|refine zj ?_|refine zZ ?_|refine zh ?_|refine zi ?_|refine zo ?_|refine zp ?_|refine zq ?_|refine zr ?_|refine zs ?_)
    refine r_allocN z72 fun w3 hb3 hE3 hs3 => ?_
    repeat' (first|refine za ?_|refine zA ?_|refine zB ?_|refine zb ?_|refine zc ?_|refine ze ?_|refine zd ?_|refine zC ?_|refine zD ?_|refine zE ?_|refine zF ?_|refine zG ?_|refine zH ?_|refine zI ?_|refine zJ ?_|refine zK ?_|refine zL ?_|refine zM ?_|refine zN ?_|refine zO ?_|refine zP ?_|refine zQ ?_|refine zR ?_|refine zS ?_|refine zU ?_|refine zV ?_|refine zW ?_|refine zt (fun hcd => ?_) (fun hcd => ?_)|refine zu (fun hcd => ?_) (fun hcd => ?_)|refine zX ?_|refine zY ?_|refine zv (fun hcd => ?_) (fun hcd => ?_)|refine zk ?_|refine zl ?_|refine zm ?_|refine zn ?_|refine zf ?_|refine zg ?_|refine zj ?_|refine zZ ?_|refine zh ?_|refine zi ?_|refine zo ?_|refine zp ?_|refine zq ?_|refine zr ?_|refine zs ?_)
    refine r_stN (ws := [.int .i64 0, .slice none 0 0]) ag72 (by decide) hb3 rfl rfl rfl rfl (by intro q hq; simp at hq; rcases hq with rfl | rfl <;> rfl) fun w4 h4 hC4 hs4 => ?_
    have hE4 : Ext w2 w4 := Ch.trans' hE3 hC4 fun k hk e => by omega
    repeat' (first|refine za ?_|refine zA ?_|refine zB ?_|refine zb ?_|refine zc ?_|refine ze ?_|refine zd ?_|refine zC ?_|refine zD ?_|refine zE ?_|refine zF ?_|refine zG ?_|refine zH ?_|refine zI ?_|refine zJ ?_|refine zK ?_|refine zL ?_|refine zM ?_|refine zN ?_|refine zO ?_|refine zP ?_|refine zQ ?_|refine zR ?_|refine zS ?_|refine zU ?_|refine zV ?_|refine zW ?_|refine zt (fun hcd => ?_) (fun hcd => ?_)|refine zu (fun hcd => ?_) (fun hcd => ?_)|refine zX ?_|refine zY ?_|refine zv (fun hcd => ?_) (fun hcd => ?_)|refine zk ?_|refine zl ?_|refine zm ?_|refine zn ?_|refine zf ?_|refine zg ?_|refine zj ?_|refine zZ ?_|refine zh ?_|refine zi ?_|refine zo ?_|refine zp ?_|refine zq ?_|refine zr ?_|refine zs ?_)
    refine r_build built48z ?_
    repeat' (first|refine za ?_|refine zA ?_|refine zB ?_|refine zb ?_|refine zc ?_|refine ze ?_|refine zd ?_|refine zC ?_|refine zD ?_|refine zE ?_|refine zF ?_|refine zG ?_|refine zH ?_|refine zI ?_|refine zJ ?_|refine zK ?_|refine zL ?_|refine zM ?_|refine zN ?_|refine zO ?_|refine zP ?_|refine zQ ?_|refine zR ?_|refine zS ?_|refine zU ?_|refine zV ?_|refine zW ?_|refine zt (fun hcd => ?_) (fun hcd => ?_)|refine zu (fun hcd => ?_) (fun hcd => ?_)|refine zX ?_|refine zY ?_|refine zv (fun hcd => ?_) (fun hcd => ?_)|refine zk ?_|refine zl ?_|refine zm ?_|refine zn ?_|refine zf ?_|refine zg ?_|refine zj ?_|refine zZ ?_|refine zh ?_|refine zi ?_|refine zo ?_|refine zp ?_|refine zq ?_|refine zr ?_|refine zs ?_)
    refine r_stN (ws := [.int .i64 0, .int .i64 0]) ag48 (by decide) (hb2.ext hE4) (by rw [ints_length]; simp) rfl rfl rfl (by intro q hq; simp at hq; rcases hq with rfl | rfl <;> rfl) fun w5 h5 hC5 hs5 => ?_
    repeat' (first|refine za ?_|refine zA ?_|refine zB ?_|refine zb ?_|refine zc ?_|refine ze ?_|refine zd ?_|refine zC ?_|refine zD ?_|refine zE ?_|refine zF ?_|refine zG ?_|refine zH ?_|refine zI ?_|refine zJ ?_|refine zK ?_|refine zL ?_|refine zM ?_|refine zN ?_|refine zO ?_|refine zP ?_|refine zQ ?_|refine zR ?_|refine zS ?_|refine zU ?_|refine zV ?_|refine zW ?_|refine zt (fun hcd => ?_) (fun hcd => ?_)|refine zu (fun hcd => ?_) (fun hcd => ?_)|refine zX ?_|refine zY ?_|refine zv (fun hcd => ?_) (fun hcd => ?_)|refine zk ?_|refine zl ?_|refine zm ?_|refine zn ?_|refine zf ?_|refine zg ?_|refine zj ?_|refine zZ ?_|refine zh ?_|refine zi ?_|refine zo ?_|refine zp ?_|refine zq ?_|refine zr ?_|refine zs ?_)
    refine post_tctt (va := .slice none 0 0) (vu := .slice none 0 0) (vs' := .int .i64 2) rfl rfl rfl rfl rfl ag48 (by decide) h5 rfl ⟨?_, Ch.trans' (hE02.trans hE4) hC5 fun k hk e => by omega⟩
    unfold DensR
    rw [if_neg hG]
  rw [if_pos hG]
  have hGe := hG.ed
  have hn := hG.1
  have hlen := hG.len
  obtain ⟨m, rfl⟩ : ∃ m : Nat, n = m := ⟨n.toNat, by omega⟩
  repeat' (first|refine za ?_|refine zA ?_|refine zB ?_|refine zb ?_|refine zc ?_|refine ze ?_|refine zd ?_|refine zC ?_|refine zD ?_|refine zE ?_|refine zF ?_|refine zG ?_|refine zH ?_|refine zI ?_|refine zJ ?_|refine zK ?_|refine zL ?_|refine zM ?_|refine zN ?_|refine zO ?_|refine zP ?_|refine zQ ?_|refine zR ?_|refine zS ?_|refine zU ?_|refine zV ?_|refine zW ?_|refine zt (fun hcd => ?_) (fun hcd => ?_)|refine zu (fun hcd => ?_) (fun hcd => ?_)|refine zX ?_|refine zY ?_|refine zv (fun hcd => ?_) (fun hcd => ?_)|refine zk ?_|refine zl ?_|refine zm ?_|refine zn ?_|refine zf ?_|refine zg ?_|refine zj ?_|refine zZ ?_|refine zh ?_|refine zi ?_|refine zo ?_|refine zp ?_|refine zq ?_|refine zr ?_|refine zs ?_)
  refine r_allocN z72 fun w3 hb3 hE3 hs3 => ?_
  obtain ⟨b8, eb8⟩ : ∃ b, b = w2.heap.size := ⟨_, rfl⟩
  rw [← eb8] at hb3 ⊢
  repeat' (first|refine za ?_|refine zA ?_|refine zB ?_|refine zb ?_|refine zc ?_|refine ze ?_|refine zd ?_|refine zC ?_|refine zD ?_|refine zE ?_|refine zF ?_|refine zG ?_|refine zH ?_|refine zI ?_|refine zJ ?_|refine zK ?_|refine zL ?_|refine zM ?_|refine zN ?_|refine zO ?_|refine zP ?_|refine zQ ?_|refine zR ?_|refine zS ?_|refine zU ?_|refine zV ?_|refine zW ?_|refine zt (fun hcd => ?_) (fun hcd => ?_)|refine zu (fun hcd => ?_) (fun hcd => ?_)|refine zX ?_|refine zY ?_|refine zv (fun hcd => ?_) (fun hcd => ?_)|refine zk ?_|refine zl ?_|refine zm ?_|refine zn ?_|refine zf ?_|refine zg ?_|refine zj ?_|refine zZ ?_|refine zh ?_|refine zi ?_|refine zo ?_|refine zp ?_|refine zq ?_|refine zr ?_|refine zs ?_)
  refine r_stN (ws := [.int .i64 (m : Int), .slice qe L.length ce]) ag72 (by decide) hb3 rfl rfl rfl rfl (by intro q hq; simp at hq; rcases hq with rfl | rfl <;> rfl) fun w4 h4 hC4 hs4 => ?_
  have hE4 : Ext w2 w4 := Ch.trans' hE3 hC4 fun k hk e => by omega
  have hE04 := hE02.trans hE4
  have hsz2 := hE2.size
  repeat' (first|refine za ?_|refine zA ?_|refine zB ?_|refine zb ?_|refine zc ?_|refine ze ?_|refine zd ?_|refine zC ?_|refine zD ?_|refine zE ?_|refine zF ?_|refine zG ?_|refine zH ?_|refine zI ?_|refine zJ ?_|refine zK ?_|refine zL ?_|refine zM ?_|refine zN ?_|refine zO ?_|refine zP ?_|refine zQ ?_|refine zR ?_|refine zS ?_|refine zU ?_|refine zV ?_|refine zW ?_|refine zt (fun hcd => ?_) (fun hcd => ?_)|refine zu (fun hcd => ?_) (fun hcd => ?_)|refine zX ?_|refine zY ?_|refine zv (fun hcd => ?_) (fun hcd => ?_)|refine zk ?_|refine zl ?_|refine zm ?_|refine zn ?_|refine zf ?_|refine zg ?_|refine zj ?_|refine zZ ?_|refine zh ?_|refine zi ?_|refine zo ?_|refine zp ?_|refine zq ?_|refine zr ?_|refine zs ?_)
  (refine r_call (R := ?_) rfl ?_ ?_; rotate_left 1; focus exact frac_any L.length m _ (by omega) (by omega) (by omega))
  rintro v w5 ⟨rfl, hE5⟩
  have hE05 := hE04.trans hE5
  repeat' (first|refine za ?_|refine zA ?_|refine zB ?_|refine zb ?_|refine zc ?_|refine ze ?_|refine zd ?_|refine zC ?_|refine zD ?_|refine zE ?_|refine zF ?_|refine zG ?_|refine zH ?_|refine zI ?_|refine zJ ?_|refine zK ?_|refine zL ?_|refine zM ?_|refine zN ?_|refine zO ?_|refine zP ?_|refine zQ ?_|refine zR ?_|refine zS ?_|refine zU ?_|refine zV ?_|refine zW ?_|refine zt (fun hcd => ?_) (fun hcd => ?_)|refine zu (fun hcd => ?_) (fun hcd => ?_)|refine zX ?_|refine zY ?_|refine zv (fun hcd => ?_) (fun hcd => ?_)|refine zk ?_|refine zl ?_|refine zm ?_|refine zn ?_|refine zf ?_|refine zg ?_|refine zj ?_|refine zZ ?_|refine zh ?_|refine zi ?_|refine zo ?_|refine zp ?_|refine zq ?_|refine zr ?_|refine zs ?_)
  refine r_allocN z48 fun w6 hb6 hE6 hs6 => ?_
  obtain ⟨b10, eb10⟩ : ∃ b, b = w5.heap.size := ⟨_, rfl⟩
  rw [← eb10] at hb6 ⊢
  repeat' (first|refine za ?_|refine zA ?_|refine zB ?_|refine zb ?_|refine zc ?_|refine ze ?_|refine zd ?_|refine zC ?_|refine zD ?_|refine zE ?_|refine zF ?_|refine zG ?_|refine zH ?_|refine zI ?_|refine zJ ?_|refine zK ?_|refine zL ?_|refine zM ?_|refine zN ?_|refine zO ?_|refine zP ?_|refine zQ ?_|refine zR ?_|refine zS ?_|refine zU ?_|refine zV ?_|refine zW ?_|refine zt (fun hcd => ?_) (fun hcd => ?_)|refine zu (fun hcd => ?_) (fun hcd => ?_)|refine zX ?_|refine zY ?_|refine zv (fun hcd => ?_) (fun hcd => ?_)|refine zk ?_|refine zl ?_|refine zm ?_|refine zn ?_|refine zf ?_|refine zg ?_|refine zj ?_|refine zZ ?_|refine zh ?_|refine zi ?_|refine zo ?_|refine zp ?_|refine zq ?_|refine zr ?_|refine zs ?_)
  refine r_stN (ws := [.int .i64 ((L.length / Nat.gcd L.length m : Nat) : Int), .int .i64 ((m / Nat.gcd L.length m : Nat) : Int)]) ag48 (by decide) hb6 (by rw [ints_length]; simp) rfl rfl rfl (by intro q hq; simp at hq; rcases hq with rfl | rfl <;> rfl) fun w7 h7 hC7 hs7 => ?_
  have hE7 : Ext w5 w7 := Ch.trans' hE6 hC7 fun k hk e => by omega
  have hE07 := hE05.trans hE7
  have h47 := h4.ext (hE5.trans hE7)
  have hb27 := hb2.ext (hE4.trans (hE5.trans hE7))
  have hsz5 := hE5.size
  have h8lt := h4.lt
  have h10lt := h7.lt
  repeat' (first|refine za ?_|refine zA ?_|refine zB ?_|refine zb ?_|refine zc ?_|refine ze ?_|refine zd ?_|refine zC ?_|refine zD ?_|refine zE ?_|refine zF ?_|refine zG ?_|refine zH ?_|refine zI ?_|refine zJ ?_|refine zK ?_|refine zL ?_|refine zM ?_|refine zN ?_|refine zO ?_|refine zP ?_|refine zQ ?_|refine zR ?_|refine zS ?_|refine zU ?_|refine zV ?_|refine zW ?_|refine zt (fun hcd => ?_) (fun hcd => ?_)|refine zu (fun hcd => ?_) (fun hcd => ?_)|refine zX ?_|refine zY ?_|refine zv (fun hcd => ?_) (fun hcd => ?_)|refine zk ?_|refine zl ?_|refine zm ?_|refine zn ?_|refine zf ?_|refine zg ?_|refine zj ?_|refine zZ ?_|refine zh ?_|refine zi ?_|refine zo ?_|refine zp ?_|refine zq ?_|refine zr ?_|refine zs ?_)
  refine wc_loop3 [0, 1, 5, 8, 10] (fun (_ _ : Nat) (_ : List Int) => []) (fun a bb T wk => (∃ a0 b0 : Nat, a = a0 / Nat.gcd a0 b0 ∧ bb = b0 / Nat.gcd a0 b0 ∧ 0 < b0 ∧ b0 ≤ 16 ∧ a0 ≤ 1000 ∧ (a0 : Int) = insM L T ∧ b0 = T.length) ∧ T.Nodup ∧ (∀ v, v ∈ T → 0 ≤ v ∧ v < (m : Int)) ∧ Ext w wk ∧
      Blk wk b8 72 [.int .i64 (m : Int), .slice qe L.length ce] ∧ Blk wk b10 48 [.int .i64 (a : Int), .int .i64 (bb : Int)] ∧ Blk wk b5 48 (ints (List.replicate 2 0))) (fun a bb _ => 256001 - 256 * a / bb) _ _ (allV m) rfl trivial
    ⟨⟨L.length, m, rfl, rfl, by omega, by omega, by omega, (insM_all hGe).symm, (allV_len m).symm⟩, allV_nodup m, fun v hv => allV_mem.1 hv, hE07, h47, h7, hb27⟩ ?_
  clear h7 h47 hb27 hE07 hE7 hE05 hE5 hE04 hE4 h4 hC7 hC4 hb6 hb3 hb2 hb1 hE02
  rintro a bb T wk x ⟨⟨a0, b0, ea, ebb, hb0, hb16, ha0, hins, hTl⟩, hTn, hTr, hE, hB8, hB10, hB5⟩
  have hbp : 0 < bb := by rw [ebb]; exact red_pos hb0
  have hble : bb ≤ b0 := by rw [ebb]; exact red_le.2
  have hale : a ≤ a0 := by rw [ea]; exact red_le.1
  have hrat : a * b0 = bb * a0 := by rw [ea, ebb]; exact red_same
  repeat' (first|refine za ?_|refine zA ?_|refine zB ?_|refine zb ?_|refine zc ?_|refine ze ?_|refine zd ?_|refine zC ?_|refine zD ?_|refine zE ?_|refine zF ?_|refine zG ?_|refine zH ?_|refine zI ?_|refine zJ ?_|refine zK ?_|refine zL ?_|refine zM ?_|refine zN ?_|refine zO ?_|refine zP ?_|refine zQ ?_|refine zR ?_|refine zS ?_|refine zU ?_|refine zV ?_|refine zW ?_|refine zt (fun hcd => ?_) (fun hcd => ?_)|refine zu (fun hcd => ?_) (fun hcd => ?_)|refine zX ?_|refine zY ?_|refine zv (fun hcd => ?_) (fun hcd => ?_)|refine zk ?_|refine zl ?_|refine zm ?_|refine zn ?_|refine zf ?_|refine zg ?_|refine zj ?_|refine zZ ?_|refine zh ?_|refine zi ?_|refine zo ?_|refine zp ?_|refine zq ?_|refine zr ?_|refine zs ?_)
  refine r_ldN (vs := [.int .i64 (m : Int), .slice qe L.length ce]) ag72 (by decide) hB8 rfl rfl ?_
  repeat' (first|refine za ?_|refine zA ?_|refine zB ?_|refine zb ?_|refine zc ?_|refine ze ?_|refine zd ?_|refine zC ?_|refine zD ?_|refine zE ?_|refine zF ?_|refine zG ?_|refine zH ?_|refine zI ?_|refine zJ ?_|refine zK ?_|refine zL ?_|refine zM ?_|refine zN ?_|refine zO ?_|refine zP ?_|refine zQ ?_|refine zR ?_|refine zS ?_|refine zU ?_|refine zV ?_|refine zW ?_|refine zt (fun hcd => ?_) (fun hcd => ?_)|refine zu (fun hcd => ?_) (fun hcd => ?_)|refine zX ?_|refine zY ?_|refine zv (fun hcd => ?_) (fun hcd => ?_)|refine zk ?_|refine zl ?_|refine zm ?_|refine zn ?_|refine zf ?_|refine zg ?_|refine zj ?_|refine zZ ?_|refine zh ?_|refine zi ?_|refine zo ?_|refine zp ?_|refine zq ?_|refine zr ?_|refine zs ?_)
  refine r_ldN (vs := [.int .i64 (a : Int), .int .i64 (bb : Int)]) ag48 (by decide) hB10 rfl rfl ?_
  repeat' (first|refine za ?_|refine zA ?_|refine zB ?_|refine zb ?_|refine zc ?_|refine ze ?_|refine zd ?_|refine zC ?_|refine zD ?_|refine zE ?_|refine zF ?_|refine zG ?_|refine zH ?_|refine zI ?_|refine zJ ?_|refine zK ?_|refine zL ?_|refine zM ?_|refine zN ?_|refine zO ?_|refine zP ?_|refine zQ ?_|refine zR ?_|refine zS ?_|refine zU ?_|refine zV ?_|refine zW ?_|refine zt (fun hcd => ?_) (fun hcd => ?_)|refine zu (fun hcd => ?_) (fun hcd => ?_)|refine zX ?_|refine zY ?_|refine zv (fun hcd => ?_) (fun hcd => ?_)|refine zk ?_|refine zl ?_|refine zm ?_|refine zn ?_|refine zf ?_|refine zg ?_|refine zj ?_|refine zZ ?_|refine zh ?_|refine zi ?_|refine zo ?_|refine zp ?_|refine zq ?_|refine zr ?_|refine zs ?_)
  (refine r_call (R := ?_) rfl ?_ ?_; rotate_left 1; focus exact shared_any (m : Int) a bb _ L wk (h.ext hE) hl (fun g hg => by have := hel g hg; have := hE.size; omega) hGe hn (by omega) (by omega))
  rintro v w8 ⟨hR, hE8⟩
  rcases hR with ⟨b, q, c, Sh, Ld, rfl, hW, hS, hall⟩ | ⟨S, g, c, rfl, hO, hAsc, hpos, hrng, hlt⟩
  · repeat' (first|refine za ?_|refine zA ?_|refine zB ?_|refine zb ?_|refine zc ?_|refine ze ?_|refine zd ?_|refine zC ?_|refine zD ?_|refine zE ?_|refine zF ?_|refine zG ?_|refine zH ?_|refine zI ?_|refine zJ ?_|refine zK ?_|refine zL ?_|refine zM ?_|refine zN ?_|refine zO ?_|refine zP ?_|refine zQ ?_|refine zR ?_|refine zS ?_|refine zU ?_|refine zV ?_|refine zW ?_|refine zt (fun hcd => ?_) (fun hcd => ?_)|refine zu (fun hcd => ?_) (fun hcd => ?_)|refine zX ?_|refine zY ?_|refine zv (fun hcd => ?_) (fun hcd => ?_)|refine zk ?_|refine zl ?_|refine zm ?_|refine zn ?_|refine zf ?_|refine zg ?_|refine zj ?_|refine zZ ?_|refine zh ?_|refine zi ?_|refine zo ?_|refine zp ?_|refine zq ?_|refine zr ?_|refine zs ?_)
    refine r_eqnil rfl rfl rfl ?_
    repeat' (first|refine za ?_|refine zA ?_|refine zB ?_|refine zb ?_|refine zc ?_|refine ze ?_|refine zd ?_|refine zC ?_|refine zD ?_|refine zE ?_|refine zF ?_|refine zG ?_|refine zH ?_|refine zI ?_|refine zJ ?_|refine zK ?_|refine zL ?_|refine zM ?_|refine zN ?_|refine zO ?_|refine zP ?_|refine zQ ?_|refine zR ?_|refine zS ?_|refine zU ?_|refine zV ?_|refine zW ?_|refine zt (fun hcd => ?_) (fun hcd => ?_)|refine zu (fun hcd => ?_) (fun hcd => ?_)|refine zX ?_|refine zY ?_|refine zv (fun hcd => ?_) (fun hcd => ?_)|refine zk ?_|refine zl ?_|refine zm ?_|refine zn ?_|refine zf ?_|refine zg ?_|refine zj ?_|refine zZ ?_|refine zh ?_|refine zi ?_|refine zo ?_|refine zp ?_|refine zq ?_|refine zr ?_|refine zs ?_)
    have hE08 := hE.trans hE8
    have hb5k := hB5.lt
    have hbW := hW.bblk
    have hszk := hE.size
    have hqb : ∀ k, (Value.slice q Sh.length c).ownBlock = some k → wk.heap.size ≤ k := fun k hk => (hW.ne hk).1
    have hWk : ∀ w', Ch (fun k => k = b5) w8 w' → ShW w' b wk.heap.size m a bb (.slice qe L.length ce) q c L Sh Ld := fun w' hw' => hW.keep hw' fun k hk e => by
      subst hk
      rcases e with e | e | e
      · omega
      · have := hqb _ e; omega
      · have := hel _ e; omega
    have hBk : ∀ w', Ch (fun k => k = b5) w8 w' → Blk w' b10 48 [.int .i64 (a : Int), .int .i64 (bb : Int)] := fun w' hw' => (hB10.ext hE8).keep hw' (by omega)
    refine wc_heldB (fun w' => Ch (fun k => k = b5) w8 w') (.take 0 (.take 2 (.take 3 (.take 4 (.take 5 (.take 6 (.one 1 (.one 7 (.one 8 (.one 9 (.one 10 .done))))))))))) (by kernel_rfl) (by kernel_rfl) (Ext.drew w8).ch ?_
    refine whB_take (v := .pointer (some ⟨b, 0, none⟩)) rfl rfl (fun w' hw' => rv_move_v rfl) ?_
    refine whB_take rfl rfl (fun w' hw' => rv_of rfl (fun _ h => r_ldN (vs := [.int .i64 (a : Int), .int .i64 (bb : Int)]) ag48 (by decide) (hBk w' hw') rfl rfl h) fun _ _ h => val_of h) ?_
    refine whB_take (v := .pointer (some ⟨b, 0, none⟩)) rfl rfl (fun w' hw' => rv_move_v rfl) ?_
    refine whB_take rfl rfl (fun w' hw' => rv_nil rfl) ?_
    refine whB_take rfl rfl (fun w' hw' => rv_faE (o' := 4) fo89_3 rfl rfl) ?_
    refine whB_take rfl rfl (fun w' hw' => rv_ld rfl rfl (hWk w' hw').rds.2.2.2.2) ?_
    refine whB_one rfl rfl ?_
    have hWd := hWk _ (Ext.drew w8).ch
    (refine r_call (R := ?_) rfl ?_ ?_; rotate_left 1; focus exact full_any _ b wk.heap.size m a bb _ q c L Sh Ld hWd hS hGe hn hl)
    rintro vf w9 ⟨F, hOF, hFA, hFc, hFg, hE9⟩
    have hX9 := (Ext.drew w8).trans hE9
    obtain ⟨qf, cf, rfl, hqf⟩ := (OwnI.ints hOF).slice
    refine ⟨hX9.ch, whB_one rfl rfl ?_⟩
    refine r_assign_v (v := .slice qf F.length cf) rfl ?_
    refine ⟨hX9.ch, whB_one rfl rfl ?_⟩
    refine r_stN (ws := [.int .i64 (a : Int), .int .i64 (bb : Int)]) ag48 (by decide) ((hB5.ext hE8).ext hX9) (by rw [ints_length]; simp) rfl rfl rfl (by intro q hq; simp at hq; rcases hq with rfl | rfl <;> rfl) fun w10 h10 hC10 hs10 => ?_
    have hC8 : Ch (fun k => k = b5) w8 w10 := Ch.trans' hX9.ch hC10 fun k _ e => e
    refine ⟨hC8, whB_one rfl rfl ?_⟩
    refine r_assign_v (v := .slice q Sh.length c) rfl ?_
    refine ⟨hC8, whB_one rfl rfl ?_⟩
    refine r_assign_v (v := .int .i64 0) rfl ?_
    refine ⟨hC8, whB_done ?_⟩
    obtain ⟨d1, d2, d3⟩ := Dens.of_clo hS hall hn.2 (by omega) hFA hFc hFg hTn hTr (by omega) (by rw [← hins, ← hTl]; exact_mod_cast hrat)
    have hfa : a = dnum L F ∧ bb = dden L F := by
      rw [ea, ebb]
      refine red_eq hb0 d1.pos ?_
      rw [← insE_insM] at d2
      have d2' : a * F.length = bb * insE L F L.length := by exact_mod_cast d2
      have : bb * (a0 * F.length) = bb * (insE L F L.length * b0) := by
        calc bb * (a0 * F.length) = (bb * a0) * F.length := by ac_rfl
          _ = (a * b0) * F.length := by rw [hrat]
          _ = b0 * (a * F.length) := by ac_rfl
          _ = b0 * (bb * insE L F L.length) := by rw [d2']
          _ = bb * (insE L F L.length * b0) := by ac_rfl
      exact Nat.eq_of_mul_eq_mul_left hbp this
    have hOF' := ownsRow_keep hOF hC10 fun g hg e => by have h1 := World.ownsRow.lt hOF g hg; have : w8.drew.heap.size = w8.heap.size := rfl; have := hE8.size; omega
    have hOP' := ownsRow_keep (ownsRow_ext hW.own hX9) hC10 fun g hg e => by have := hqb g hg; omega
    repeat' (first|refine za ?_|refine zA ?_|refine zB ?_|refine zb ?_|refine zc ?_|refine ze ?_|refine zd ?_|refine zC ?_|refine zD ?_|refine zE ?_|refine zF ?_|refine zG ?_|refine zH ?_|refine zI ?_|refine zJ ?_|refine zK ?_|refine zL ?_|refine zM ?_|refine zN ?_|refine zO ?_|refine zP ?_|refine zQ ?_|refine zR ?_|refine zS ?_|refine zU ?_|refine zV ?_|refine zW ?_|refine zt (fun hcd => ?_) (fun hcd => ?_)|refine zu (fun hcd => ?_) (fun hcd => ?_)|refine zX ?_|refine zY ?_|refine zv (fun hcd => ?_) (fun hcd => ?_)|refine zk ?_|refine zl ?_|refine zm ?_|refine zn ?_|refine zf ?_|refine zg ?_|refine zj ?_|refine zZ ?_|refine zh ?_|refine zi ?_|refine zo ?_|refine zp ?_|refine zq ?_|refine zr ?_|refine zs ?_)
    refine post_tctt (va := .slice qf F.length cf) (vu := .slice q Sh.length c) (vs' := .int .i64 0) rfl rfl rfl rfl rfl ag48 (by decide) h10 rfl ⟨?_, Ch.trans' hE08 hC8 fun k hk e => by omega⟩
    unfold DensR
    rw [if_pos hG, ← eb5]
    refine ⟨F, Sh, .slice qf F.length cf, .slice q Sh.length c, by rw [← hfa.1, ← hfa.2], ownsRow_mono hOF' (by have : w8.drew.heap.size = w8.heap.size := rfl; have := hE8.size; omega), ownsRow_mono hOP' (by omega), fun g hg e => ?_, d1, by rw [← hfa.1, ← hfa.2]; exact d3⟩
    obtain ⟨c1, hc1⟩ := row_obj hOF' hg
    obtain ⟨c2, hc2⟩ := row_obj hOP' e
    rw [hc1] at hc2; cases hc2
  · repeat' (first|refine za ?_|refine zA ?_|refine zB ?_|refine zb ?_|refine zc ?_|refine ze ?_|refine zd ?_|refine zC ?_|refine zD ?_|refine zE ?_|refine zF ?_|refine zG ?_|refine zH ?_|refine zI ?_|refine zJ ?_|refine zK ?_|refine zL ?_|refine zM ?_|refine zN ?_|refine zO ?_|refine zP ?_|refine zQ ?_|refine zR ?_|refine zS ?_|refine zU ?_|refine zV ?_|refine zW ?_|refine zt (fun hcd => ?_) (fun hcd => ?_)|refine zu (fun hcd => ?_) (fun hcd => ?_)|refine zX ?_|refine zY ?_|refine zv (fun hcd => ?_) (fun hcd => ?_)|refine zk ?_|refine zl ?_|refine zm ?_|refine zn ?_|refine zf ?_|refine zg ?_|refine zj ?_|refine zZ ?_|refine zh ?_|refine zi ?_|refine zo ?_|refine zp ?_|refine zq ?_|refine zr ?_|refine zs ?_)
    refine r_eqnil rfl rfl rfl ?_
    repeat' (first|refine za ?_|refine zA ?_|refine zB ?_|refine zb ?_|refine zc ?_|refine ze ?_|refine zd ?_|refine zC ?_|refine zD ?_|refine zE ?_|refine zF ?_|refine zG ?_|refine zH ?_|refine zI ?_|refine zJ ?_|refine zK ?_|refine zL ?_|refine zM ?_|refine zN ?_|refine zO ?_|refine zP ?_|refine zQ ?_|refine zR ?_|refine zS ?_|refine zU ?_|refine zV ?_|refine zW ?_|refine zt (fun hcd => ?_) (fun hcd => ?_)|refine zu (fun hcd => ?_) (fun hcd => ?_)|refine zX ?_|refine zY ?_|refine zv (fun hcd => ?_) (fun hcd => ?_)|refine zk ?_|refine zl ?_|refine zm ?_|refine zn ?_|refine zf ?_|refine zg ?_|refine zj ?_|refine zZ ?_|refine zh ?_|refine zi ?_|refine zo ?_|refine zp ?_|refine zq ?_|refine zr ?_|refine zs ?_)
    refine r_ldN (vs := [.int .i64 (m : Int), .slice qe L.length ce]) ag72 (by decide) (hB8.ext hE8) rfl rfl ?_
    have hE08 := hE.trans hE8
    have hSl := set_len hAsc.nodup hrng hn.2
    repeat' (first|refine za ?_|refine zA ?_|refine zB ?_|refine zb ?_|refine zc ?_|refine ze ?_|refine zd ?_|refine zC ?_|refine zD ?_|refine zE ?_|refine zF ?_|refine zG ?_|refine zH ?_|refine zI ?_|refine zJ ?_|refine zK ?_|refine zL ?_|refine zM ?_|refine zN ?_|refine zO ?_|refine zP ?_|refine zQ ?_|refine zR ?_|refine zS ?_|refine zU ?_|refine zV ?_|refine zW ?_|refine zt (fun hcd => ?_) (fun hcd => ?_)|refine zu (fun hcd => ?_) (fun hcd => ?_)|refine zX ?_|refine zY ?_|refine zv (fun hcd => ?_) (fun hcd => ?_)|refine zk ?_|refine zl ?_|refine zm ?_|refine zn ?_|refine zf ?_|refine zg ?_|refine zj ?_|refine zZ ?_|refine zh ?_|refine zi ?_|refine zo ?_|refine zp ?_|refine zq ?_|refine zr ?_|refine zs ?_)
    (refine r_call (R := ?_) rfl ?_ ?_; rotate_left 1; focus exact density_any (m : Int) _ _ L S _ (h.ext hE08) (OwnI.ints hO) hl hpos (by omega))
    rintro v w9 ⟨rfl, hE9⟩
    have hb10k := hB10.lt
    have hsz08 := hE08.size
    repeat' (first|refine za ?_|refine zA ?_|refine zB ?_|refine zb ?_|refine zc ?_|refine ze ?_|refine zd ?_|refine zC ?_|refine zD ?_|refine zE ?_|refine zF ?_|refine zG ?_|refine zH ?_|refine zI ?_|refine zJ ?_|refine zK ?_|refine zL ?_|refine zM ?_|refine zN ?_|refine zO ?_|refine zP ?_|refine zQ ?_|refine zR ?_|refine zS ?_|refine zU ?_|refine zV ?_|refine zW ?_|refine zt (fun hcd => ?_) (fun hcd => ?_)|refine zu (fun hcd => ?_) (fun hcd => ?_)|refine zX ?_|refine zY ?_|refine zv (fun hcd => ?_) (fun hcd => ?_)|refine zk ?_|refine zl ?_|refine zm ?_|refine zn ?_|refine zf ?_|refine zg ?_|refine zj ?_|refine zZ ?_|refine zh ?_|refine zi ?_|refine zo ?_|refine zp ?_|refine zq ?_|refine zr ?_|refine zs ?_)
    refine r_stN (ws := [.int .i64 ((insE L S L.length / Nat.gcd (insE L S L.length) S.length : Nat) : Int), .int .i64 ((S.length / Nat.gcd (insE L S L.length) S.length : Nat) : Int)]) ag48 (by decide) ((hB10.ext hE8).ext hE9) rfl rfl rfl rfl (by intro q hq; simp at hq; rcases hq with rfl | rfl <;> rfl) fun w10 h10 hC10 hs10 => ?_
    have hX := hE8.trans hE9
    repeat' (first|refine za ?_|refine zA ?_|refine zB ?_|refine zb ?_|refine zc ?_|refine ze ?_|refine zd ?_|refine zC ?_|refine zD ?_|refine zE ?_|refine zF ?_|refine zG ?_|refine zH ?_|refine zI ?_|refine zJ ?_|refine zK ?_|refine zL ?_|refine zM ?_|refine zN ?_|refine zO ?_|refine zP ?_|refine zQ ?_|refine zR ?_|refine zS ?_|refine zU ?_|refine zV ?_|refine zW ?_|refine zt (fun hcd => ?_) (fun hcd => ?_)|refine zu (fun hcd => ?_) (fun hcd => ?_)|refine zX ?_|refine zY ?_|refine zv (fun hcd => ?_) (fun hcd => ?_)|refine zk ?_|refine zl ?_|refine zm ?_|refine zn ?_|refine zf ?_|refine zg ?_|refine zj ?_|refine zZ ?_|refine zh ?_|refine zi ?_|refine zo ?_|refine zp ?_|refine zq ?_|refine zr ?_|refine zs ?_)
    refine ⟨insE L S L.length / Nat.gcd (insE L S L.length) S.length, S.length / Nat.gcd (insE L S L.length) S.length, S, trivial, ⟨⟨insE L S L.length, S.length, rfl, rfl, hpos, hSl, ?_, insE_insM, rfl⟩, hAsc.nodup, hrng, Ch.trans' (hE.trans hX) hC10 fun k hk e => by omega, (hB8.ext hX).keep hC10 (by omega), h10, (hB5.ext hX).keep hC10 (by omega)⟩, ?_⟩
    · have := insE_le (L := L) (S := S) (k := L.length); omega
    · rw [← insE_insM] at hlt
      have hlt' : a * S.length < bb * insE L S L.length := by exact_mod_cast hlt
      have hsame := red_same (a := insE L S L.length) (b := S.length)
      have hb' := red_pos (a := insE L S L.length) hpos
      have hb'' := (red_le (a := insE L S L.length) (b := S.length)).2
      generalize insE L S L.length / Nat.gcd (insE L S L.length) S.length = a' at *
      generalize S.length / Nat.gcd (insE L S L.length) S.length = b' at *
      have hcr : a * b' < bb * a' := by
        have h1 : b' * (a * S.length) < b' * (bb * insE L S L.length) := Nat.mul_lt_mul_of_pos_left hlt' hb'
        have e1 : b' * (a * S.length) = S.length * (a * b') := by ac_rfl
        have e2 : b' * (bb * insE L S L.length) = S.length * (bb * a') := by
          calc b' * (bb * insE L S L.length) = bb * (b' * insE L S L.length) := by ac_rfl
            _ = bb * (a' * S.length) := by rw [hsame]
            _ = S.length * (bb * a') := by ac_rfl
        rw [e1, e2] at h1
        exact Nat.lt_of_mul_lt_mul_left h1
      have hm := frac_meas (a := a) (b := bb) (c := a') (d := b') ⟨hbp, by omega⟩ ⟨hb', by omega⟩ hcr
      have hdb : 256 * a / bb ≤ 256 * a := Nat.div_le_self _ _
      omega
end Go.Proofs.Ytibegggcinonkaa
