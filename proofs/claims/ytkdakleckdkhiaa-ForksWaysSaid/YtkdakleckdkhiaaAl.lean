/- forks: all trees of a size, the program's. -/
import Derived.Test.YtkdakleckdkhiaaLg
import Derived.Test.YtkdakleckdkhiaaPAl
namespace Go.Proofs.Ytkdakleckdkhiaa
namespace Gv
open Go.RowKit
/-- A table of lists of strings: its rows lie below hi, beside the table's own block. -/
def TabF (w : World) (lo hi : Nat) (v : Value) (T : List (List Str)) : Prop :=
  ∃ rows : List Value, Own w lo 32 v rows ∧ rows.length = T.length ∧ (∀ (i : Nat) (u : Value), rows[i]? = some u → Strs w u (T.getD i []) ∧ ∀ g, u.ownBlock = some g → g < hi ∧ v.ownBlock ≠ some g) ∧ ∀ g, v.ownBlock = some g → g < hi
theorem TabF.ext {w w' : World} {lo hi : Nat} {v : Value} {T : List (List Str)} (h : TabF w lo hi v T) (hc : Ext w w') : TabF w' lo hi v T := by
  obtain ⟨rows, h1, h2, h3, h4⟩ := h
  exact ⟨rows, h1.ext hc, h2, fun i u hu => ⟨(h3 i u hu).1.ext hc, (h3 i u hu).2⟩, h4⟩
theorem TabF.slice {w : World} {lo hi : Nat} {v : Value} {T : List (List Str)} (h : TabF w lo hi v T) : ∃ q c, v = .slice q T.length c ∧ T.length ≤ c := by
  obtain ⟨rows, h1, h2, _⟩ := h
  rw [← h2]; exact Sl.slice h1.sl
theorem TabF.isSome {w : World} {lo hi n c : Nat} {q : Option Addr} {T : List (List Str)} (h : TabF w lo hi (.slice q n c) T) (hl : 0 < T.length) : q.isSome = true := by
  obtain ⟨rows, h1, h2, _⟩ := h
  exact Sl.isSome h1.sl (by omega)
theorem TabF.rd0 {w : World} {lo hi n c : Nat} {q : Option Addr} {T : List (List Str)} (h : TabF w lo hi (.slice q n c) T) {i : Nat} {j : Int} (hi' : i < T.length) (hj : j = i) :
    ∃ p m, Gv.rd w (pidx q j.toNat 1) = some (.slice p (T.getD i []).length m) ∧ Strs w (.slice p (T.getD i []).length m) (T.getD i []) := by
  subst hj
  obtain ⟨rows, h1, h2, h3, _⟩ := h
  have hr : rows[i]? = some rows[i] := List.getElem?_eq_getElem (by omega)
  obtain ⟨hS, _⟩ := h3 i _ hr
  obtain ⟨p, m, e, _⟩ := hS.slice
  rw [e] at hr hS
  exact ⟨p, m, by rw [Int.toNat_natCast]; exact Sl.rd1 h1.sl i hr, hS⟩
theorem TabF.push {w : World} {lo hi : Nat} {v u : Value} {T : List (List Str)} {L : List Str} (h : TabF w lo hi v T) (hu : Strs w u L) (hb : ∀ g, u.ownBlock = some g → hi ≤ g ∧ g < w.heap.size) (hhi : hi ≤ w.heap.size) :
    ∃ rows, Own w lo 32 v rows ∧ rows.length = T.length ∧ ∀ v' w', Own w' lo 32 v' (rows ++ [u]) → w.grownBy w' v.ownBlock → (∀ g, v'.ownBlock = some g → v.ownBlock = some g ∨ w.heap.size ≤ g) → TabF w' lo w'.heap.size v' (T ++ [L]) := by
  obtain ⟨rows, h1, h2, h3, h4⟩ := h
  refine ⟨rows, h1, h2, fun v' w' g1 g2 g3 => ⟨rows ++ [u], g1, by simp [h2], fun i z hz => ?_, fun g hg => (g1.lt g hg).2⟩⟩
  have hC : Ch (fun k => v.ownBlock = some k) w w' := Ch.grown g2 fun k e => e
  have hsz := g2.size
  by_cases hi1 : i < rows.length
  · rw [List.getElem?_append_left hi1] at hz
    obtain ⟨a1, a2⟩ := h3 i z hz
    have e : (T ++ [L]).getD i [] = T.getD i [] := by simp only [List.getD_eq_getElem?_getD]; rw [List.getElem?_append_left (by omega)]
    rw [e]
    refine ⟨a1.keep hC fun g hg hv => (a2 g hg).2 hv, fun g hg => ⟨by have := (a2 g hg).1; omega, fun hv => ?_⟩⟩
    rcases g3 g hv with hv | hv
    · exact (a2 g hg).2 hv
    · have := (a2 g hg).1; omega
  · rw [List.getElem?_append_right (by omega)] at hz
    have hi2 : i = rows.length := by
      have : i - rows.length < 1 := by
        have := (List.getElem?_eq_some_iff.1 hz).1
        simpa using this
      omega
    subst hi2
    simp at hz
    subst hz
    have e : (T ++ [L]).getD rows.length [] = L := by simp only [List.getD_eq_getElem?_getD]; rw [List.getElem?_append_right (by omega), h2]; simp
    rw [e]
    refine ⟨hu.keep hC fun g hg hv => ?_, fun g hg => ⟨by have := (hb g hg).2; omega, fun hv => ?_⟩⟩
    · have := h4 g hv; have := (hb g hg).1; omega
    · rcases g3 g hv with hv | hv
      · have := h4 g hv; have := (hb g hg).1; omega
      · have := (hb g hg).2; omega
end Gv
open Gv
theorem al_row_len {k j : Nat} (hk : k ≤ 10) : ((al k).getD j []).length ≤ 16796 := by
  by_cases h : j ≤ k
  · rw [al_get h]; exact allS_len (by omega)
  · have := al_len k
    rw [List.getD_eq_getElem?_getD, List.getElem?_eq_none (by omega)]; simp
theorem al_row_text {k j i : Nat} (hk : k ≤ 10) (hi : i < ((al k).getD j []).length) : (((al k).getD j []).getD i []).length ≤ 31 := by
  by_cases h : j ≤ k
  · rw [al_get h] at hi ⊢
    have := allS_text (getD_mem (d := []) hi)
    omega
  · have := al_len k
    rw [List.getD_eq_getElem?_getD, List.getElem?_eq_none (by omega)] at hi; simp at hi
theorem blk_bnd {Z A B : List Str} {l : Str} {i p : Nat} (hz : Z.length ≤ 16796) (ha : A.length ≤ 16796) (hb : B.length ≤ 16796) : (Z ++ blkS (A.take i) B ++ rowS l (B.take p)).length ≤ 400000000 := by
  have h1 : (A.take i).length ≤ 16796 := by simp; omega
  have h2 : (B.take p).length ≤ 16796 := by simp; omega
  have := Nat.mul_le_mul h1 hb
  simp only [List.length_append, blkS_len, rowS_len]
  omega
theorem al_one (w wa wb : World) (h1 : Gv.Own wa w.heap.size 9 (.slice (some ⟨w.heap.size, 0, none⟩) 1 1) [str [46]]) (h2 : Gv.Own wb wa.heap.size 32 (.slice (some ⟨wa.heap.size, 0, none⟩) 1 1) [.slice (some ⟨w.heap.size, 0, none⟩) 1 1]) (hs1 : wa.heap.size = w.heap.size + 1) (hE2 : Ext wa wb) :
    TabF wb w.heap.size wb.heap.size (.slice (some ⟨wa.heap.size, 0, none⟩) 1 1) (al 0) := by
  have l2 := h2.lt wa.heap.size rfl
  refine ⟨_, ownsRow_mono h2 (by omega), rfl, fun i u hu => ?_, fun g hg => (h2.lt g hg).2⟩
  have hi : i = 0 := by have := (List.getElem?_eq_some_iff.1 hu).1; simp at this; exact this
  subst hi
  simp at hu
  subst hu
  refine ⟨Gv.Strs.ext (Gv.Own.sl h1) hE2, fun g hg => ?_⟩
  have e : g = w.heap.size := by simpa [Value.ownBlock] using hg.symm
  subst e
  refine ⟨by omega, fun hv => ?_⟩
  have : wa.heap.size = w.heap.size := by simpa [Value.ownBlock] using hv
  omega
set_option maxRecDepth 20000 in
set_option maxHeartbeats 8000000 in
theorem all_any (n : Nat) (w : World) (hn : n ≤ 10) : Calls Try.prog 80 #[.int .i64 (n : Int)] w (Ret fun v w' => Strs w' v (allS n) ∧ Ext w w') := by
  refine calls_of_wc (args := [.int .i64 (n : Int)]) Try.func80 rfl ?_ ?_; kernel_rfl
  repeat' (first|refine za ?_|refine zA ?_|refine zB ?_|refine zb ?_|refine zc ?_|refine ze ?_|refine zd ?_|refine zC ?_|refine zD ?_|refine zE ?_|refine zF ?_|refine zG ?_|refine zH ?_|refine zI ?_|refine zJ ?_|refine zK ?_|refine zL ?_|refine zM ?_|refine zN ?_|refine zO ?_|refine zP ?_|refine zQ ?_|refine zR ?_|refine zS ?_|refine zU ?_|refine zV ?_|refine zW ?_|refine zt (fun hcd => ?_) (fun hcd => ?_)|refine zu (fun hcd => ?_) (fun hcd => ?_)|refine zX ?_|refine zY ?_|refine zv (fun hcd => ?_) (fun hcd => ?_)|refine zk ?_|refine zl ?_|refine zm ?_|refine zn ?_|refine zf ?_|refine zg ?_|refine zj ?_|refine zZ ?_|refine zh ?_|refine zi ?_|refine zo ?_|refine zp ?_|refine zq ?_|refine zr ?_|refine zs ?_)
  refine r_buildS1 (u := str [46]) el32 rfl rfl fun wa hOa hEa hsa => ?_
  repeat' (first|refine za ?_|refine zA ?_|refine zB ?_|refine zb ?_|refine zc ?_|refine ze ?_|refine zd ?_|refine zC ?_|refine zD ?_|refine zE ?_|refine zF ?_|refine zG ?_|refine zH ?_|refine zI ?_|refine zJ ?_|refine zK ?_|refine zL ?_|refine zM ?_|refine zN ?_|refine zO ?_|refine zP ?_|refine zQ ?_|refine zR ?_|refine zS ?_|refine zU ?_|refine zV ?_|refine zW ?_|refine zt (fun hcd => ?_) (fun hcd => ?_)|refine zu (fun hcd => ?_) (fun hcd => ?_)|refine zX ?_|refine zY ?_|refine zv (fun hcd => ?_) (fun hcd => ?_)|refine zk ?_|refine zl ?_|refine zm ?_|refine zn ?_|refine zf ?_|refine zg ?_|refine zj ?_|refine zZ ?_|refine zh ?_|refine zi ?_|refine zo ?_|refine zp ?_|refine zq ?_|refine zr ?_|refine zs ?_)
  refine r_buildS1 (u := .slice (some ⟨w.heap.size, 0, none⟩) 1 1) el104 rfl rfl fun wb hOb hEb hsb => ?_
  repeat' (first|refine za ?_|refine zA ?_|refine zB ?_|refine zb ?_|refine zc ?_|refine ze ?_|refine zd ?_|refine zC ?_|refine zD ?_|refine zE ?_|refine zF ?_|refine zG ?_|refine zH ?_|refine zI ?_|refine zJ ?_|refine zK ?_|refine zL ?_|refine zM ?_|refine zN ?_|refine zO ?_|refine zP ?_|refine zQ ?_|refine zR ?_|refine zS ?_|refine zU ?_|refine zV ?_|refine zW ?_|refine zt (fun hcd => ?_) (fun hcd => ?_)|refine zu (fun hcd => ?_) (fun hcd => ?_)|refine zX ?_|refine zY ?_|refine zv (fun hcd => ?_) (fun hcd => ?_)|refine zk ?_|refine zl ?_|refine zm ?_|refine zn ?_|refine zf ?_|refine zg ?_|refine zj ?_|refine zZ ?_|refine zh ?_|refine zi ?_|refine zo ?_|refine zp ?_|refine zq ?_|refine zr ?_|refine zs ?_)
  refine wc_loop2 [0] (fun (k : Nat) (vt : Value) => [(4, .int .i64 ((k : Int) + 1)), (3, vt)]) (fun k vt wk => k ≤ n ∧ Ext w wk ∧ TabF wk w.heap.size wk.heap.size vt (al k)) (fun k _ => n - k) 0 (.slice (some ⟨wa.heap.size, 0, none⟩) 1 1) rfl ⟨rfl, rfl, trivial⟩ ⟨by omega, hEa.trans hEb, al_one w wa wb hOa hOb hsa hEb⟩ ?_
  rintro k vt wk x ⟨hk, hE, hT⟩
  obtain ⟨qt, ct, rfl, hct⟩ := hT.slice
  have hal := al_len k
  have hps := hT.isSome (by omega)
  by_cases hkn : k < n
  rotate_left 1
  · obtain rfl : k = n := by omega
    obtain ⟨q, m, hr, hS⟩ := hT.rd0 (i := k) (j := (k : Int)) (by omega) rfl
    rw [al_get (Nat.le_refl _)] at hr hS
    obtain ⟨L, hL⟩ : ∃ L, L = allS k := ⟨_, rfl⟩
    rw [← hL] at hr hS
    repeat' (first|refine za ?_|refine zA ?_|refine zB ?_|refine zb ?_|refine zc ?_|refine ze ?_|refine zd ?_|refine zC ?_|refine zD ?_|refine zE ?_|refine zF ?_|refine zG ?_|refine zH ?_|refine zI ?_|refine zJ ?_|refine zK ?_|refine zL ?_|refine zM ?_|refine zN ?_|refine zO ?_|refine zP ?_|refine zQ ?_|refine zR ?_|refine zS ?_|refine zU ?_|refine zV ?_|refine zW ?_|refine zt (fun hcd => ?_) (fun hcd => ?_)|refine zu (fun hcd => ?_) (fun hcd => ?_)|refine zX ?_|refine zY ?_|refine zv (fun hcd => ?_) (fun hcd => ?_)|refine zk ?_|refine zl ?_|refine zm ?_|refine zn ?_|refine zf ?_|refine zg ?_|refine zj ?_|refine zZ ?_|refine zh ?_|refine zi ?_|refine zo ?_|refine zp ?_|refine zq ?_|refine zr ?_|refine zs ?_)
    refine post1 (v := .slice q L.length m) rfl rfl ?_
    rw [← hL]
    exact ⟨hS, hE⟩
  repeat' (first|refine za ?_|refine zA ?_|refine zB ?_|refine zb ?_|refine zc ?_|refine ze ?_|refine zd ?_|refine zC ?_|refine zD ?_|refine zE ?_|refine zF ?_|refine zG ?_|refine zH ?_|refine zI ?_|refine zJ ?_|refine zK ?_|refine zL ?_|refine zM ?_|refine zN ?_|refine zO ?_|refine zP ?_|refine zQ ?_|refine zR ?_|refine zS ?_|refine zU ?_|refine zV ?_|refine zW ?_|refine zt (fun hcd => ?_) (fun hcd => ?_)|refine zu (fun hcd => ?_) (fun hcd => ?_)|refine zX ?_|refine zY ?_|refine zv (fun hcd => ?_) (fun hcd => ?_)|refine zk ?_|refine zl ?_|refine zm ?_|refine zn ?_|refine zf ?_|refine zg ?_|refine zj ?_|refine zZ ?_|refine zh ?_|refine zi ?_|refine zo ?_|refine zp ?_|refine zq ?_|refine zr ?_|refine zs ?_)
  refine wc_loop2 [0, 3, 4, 18] (fun (j : Nat) (vo : Value) => [(19, .int .i64 j), (5, vo)]) (fun j vo wj => j ≤ k + 1 ∧ Ext wk wj ∧ OwnS wj wk.heap.size vo (preS (al k) k j)) (fun j _ => k + 1 - j) 0 (.slice none 0 0) rfl ⟨rfl, rfl, trivial⟩ ⟨by omega, Ext.refl _, World.ownsRow_nil _ _ _ _⟩ ?_
  rintro j vo wj x2 ⟨hj, hEj, hO⟩
  have hpb := preS_bnd (m := k) (k := j) (by omega) hj
  by_cases hjk : j < k + 1
  · obtain ⟨qa, ma, hra, hSa⟩ := hT.rd0 (i := j) (j := (j : Int)) (by omega) rfl
    obtain ⟨qb, mb, hrb, hSb⟩ := hT.rd0 (i := k - j) (j := (k : Int) + 1 - 1 - j) (by omega) (by omega)
    have hla := al_row_len (k := k) (j := j) (by omega)
    have hlb := al_row_len (k := k) (j := k - j) (by omega)
    have hta := fun i => al_row_text (k := k) (j := j) (i := i) (by omega)
    have htb := fun i => al_row_text (k := k) (j := k - j) (i := i) (by omega)
    have hps1 := preS_succ (al k) k j
    generalize (al k).getD j [] = A at *
    generalize (al k).getD (k - j) [] = B at *
    generalize preS (al k) k j = Z at *
    obtain ⟨qz, cz, ez, _⟩ := hO.strs.slice
    subst ez
    have hra' := rd_ext hra hEj
    repeat' (first|refine za ?_|refine zA ?_|refine zB ?_|refine zb ?_|refine zc ?_|refine ze ?_|refine zd ?_|refine zC ?_|refine zD ?_|refine zE ?_|refine zF ?_|refine zG ?_|refine zH ?_|refine zI ?_|refine zJ ?_|refine zK ?_|refine zL ?_|refine zM ?_|refine zN ?_|refine zO ?_|refine zP ?_|refine zQ ?_|refine zR ?_|refine zS ?_|refine zU ?_|refine zV ?_|refine zW ?_|refine zt (fun hcd => ?_) (fun hcd => ?_)|refine zu (fun hcd => ?_) (fun hcd => ?_)|refine zX ?_|refine zY ?_|refine zv (fun hcd => ?_) (fun hcd => ?_)|refine zk ?_|refine zl ?_|refine zm ?_|refine zn ?_|refine zf ?_|refine zg ?_|refine zj ?_|refine zZ ?_|refine zh ?_|refine zi ?_|refine zo ?_|refine zp ?_|refine zq ?_|refine zr ?_|refine zs ?_)
    refine wc_loop2 [0, 3, 4, 18, 19, 6, 25, 26] (fun (i : Nat) (vo : Value) => [(27, .int .i64 i), (5, vo)]) (fun i vo wi => i ≤ A.length ∧ Ext wk wi ∧ OwnS wi wk.heap.size vo (Z ++ blkS (A.take i) B)) (fun i _ => A.length - i) 0 (.slice qz Z.length cz) rfl ⟨rfl, rfl, trivial⟩ ⟨by omega, hEj, by simpa [blkS] using hO⟩ ?_
    rintro i vo wi x3 ⟨hi, hEi, hO⟩
    obtain ⟨Y, hY⟩ : ∃ Y, Y = Z ++ blkS (A.take i) B := ⟨_, rfl⟩
    have hO2 := hO
    rw [← hY] at hO2
    obtain ⟨qy, cy, ey, _⟩ := hO2.strs.slice
    subst ey
    by_cases hiA : i < A.length
    · have hpa := hSa.isSome (by omega)
      have hrai := strs_get0 (hSa.ext hEi) hiA (j := (i : Int)) rfl
      have hrb' := rd_ext hrb hEi
      have htai := hta i hiA
      have hbs := blkS_take (B := B) hiA
      generalize A.getD i [] = a at *
      repeat' (first|refine za ?_|refine zA ?_|refine zB ?_|refine zb ?_|refine zc ?_|refine ze ?_|refine zd ?_|refine zC ?_|refine zD ?_|refine zE ?_|refine zF ?_|refine zG ?_|refine zH ?_|refine zI ?_|refine zJ ?_|refine zK ?_|refine zL ?_|refine zM ?_|refine zN ?_|refine zO ?_|refine zP ?_|refine zQ ?_|refine zR ?_|refine zS ?_|refine zU ?_|refine zV ?_|refine zW ?_|refine zt (fun hcd => ?_) (fun hcd => ?_)|refine zu (fun hcd => ?_) (fun hcd => ?_)|refine zX ?_|refine zY ?_|refine zv (fun hcd => ?_) (fun hcd => ?_)|refine zk ?_|refine zl ?_|refine zm ?_|refine zn ?_|refine zf ?_|refine zg ?_|refine zj ?_|refine zZ ?_|refine zh ?_|refine zi ?_|refine zo ?_|refine zp ?_|refine zq ?_|refine zr ?_|refine zs ?_)
      refine wc_loop2 [0, 3, 4, 18, 19, 6, 8, 25, 26, 27, 37, 38] (fun (p : Nat) (vo : Value) => [(39, .int .i64 p), (5, vo)]) (fun p vo wp => p ≤ B.length ∧ Ext wk wp ∧ OwnS wp wk.heap.size vo (Z ++ blkS (A.take i) B ++ rowS a (B.take p))) (fun p _ => B.length - p) 0 (.slice qy Y.length cy) rfl ⟨rfl, rfl, trivial⟩ ⟨by omega, hEi, by simpa [rowS] using hO⟩ ?_
      rintro p vo wp x4 ⟨hp, hEp, hO⟩
      have hbb := blk_bnd (l := a) (i := i) (p := p) hpb hla hlb
      obtain ⟨X, hX⟩ : ∃ X, X = Z ++ blkS (A.take i) B ++ rowS a (B.take p) := ⟨_, rfl⟩
      have hO3 := hO
      rw [← hX] at hO3 hbb
      obtain ⟨qx, cx, ex, _⟩ := hO3.strs.slice
      subst ex
      by_cases hpB : p < B.length
      · have hpb2 := hSb.isSome (by omega)
        have hrbp := strs_get0 (hSb.ext hEp) hpB (j := (p : Int)) rfl
        have htbp := htb p hpB
        have hrs := rowS_take (l := a) hpB
        generalize B.getD p [] = b at *
        repeat' (first|refine za ?_|refine zA ?_|refine zB ?_|refine zb ?_|refine zc ?_|refine ze ?_|refine zd ?_|refine zC ?_|refine zD ?_|refine zE ?_|refine zF ?_|refine zG ?_|refine zH ?_|refine zI ?_|refine zJ ?_|refine zK ?_|refine zL ?_|refine zM ?_|refine zN ?_|refine zO ?_|refine zP ?_|refine zQ ?_|refine zR ?_|refine zS ?_|refine zU ?_|refine zV ?_|refine zW ?_|refine zt (fun hcd => ?_) (fun hcd => ?_)|refine zu (fun hcd => ?_) (fun hcd => ?_)|refine zX ?_|refine zY ?_|refine zv (fun hcd => ?_) (fun hcd => ?_)|refine zk ?_|refine zl ?_|refine zm ?_|refine zn ?_|refine zf ?_|refine zg ?_|refine zj ?_|refine zZ ?_|refine zh ?_|refine zi ?_|refine zo ?_|refine zp ?_|refine zq ?_|refine zr ?_|refine zs ?_)
        refine r_sadd (a := [40]) (b := a) rfl rfl (by simp; omega) ?_
        repeat' (first|refine za ?_|refine zA ?_|refine zB ?_|refine zb ?_|refine zc ?_|refine ze ?_|refine zd ?_|refine zC ?_|refine zD ?_|refine zE ?_|refine zF ?_|refine zG ?_|refine zH ?_|refine zI ?_|refine zJ ?_|refine zK ?_|refine zL ?_|refine zM ?_|refine zN ?_|refine zO ?_|refine zP ?_|refine zQ ?_|refine zR ?_|refine zS ?_|refine zU ?_|refine zV ?_|refine zW ?_|refine zt (fun hcd => ?_) (fun hcd => ?_)|refine zu (fun hcd => ?_) (fun hcd => ?_)|refine zX ?_|refine zY ?_|refine zv (fun hcd => ?_) (fun hcd => ?_)|refine zk ?_|refine zl ?_|refine zm ?_|refine zn ?_|refine zf ?_|refine zg ?_|refine zj ?_|refine zZ ?_|refine zh ?_|refine zi ?_|refine zo ?_|refine zp ?_|refine zq ?_|refine zr ?_|refine zs ?_)
        refine r_sadd (a := [40] ++ a) (b := b) rfl rfl (by simp; omega) ?_
        repeat' (first|refine za ?_|refine zA ?_|refine zB ?_|refine zb ?_|refine zc ?_|refine ze ?_|refine zd ?_|refine zC ?_|refine zD ?_|refine zE ?_|refine zF ?_|refine zG ?_|refine zH ?_|refine zI ?_|refine zJ ?_|refine zK ?_|refine zL ?_|refine zM ?_|refine zN ?_|refine zO ?_|refine zP ?_|refine zQ ?_|refine zR ?_|refine zS ?_|refine zU ?_|refine zV ?_|refine zW ?_|refine zt (fun hcd => ?_) (fun hcd => ?_)|refine zu (fun hcd => ?_) (fun hcd => ?_)|refine zX ?_|refine zY ?_|refine zv (fun hcd => ?_) (fun hcd => ?_)|refine zk ?_|refine zl ?_|refine zm ?_|refine zn ?_|refine zf ?_|refine zg ?_|refine zj ?_|refine zZ ?_|refine zh ?_|refine zi ?_|refine zo ?_|refine zp ?_|refine zq ?_|refine zr ?_|refine zs ?_)
        refine r_sadd (a := [40] ++ a ++ b) (b := [41]) rfl rfl (by simp; omega) ?_
        repeat' (first|refine za ?_|refine zA ?_|refine zB ?_|refine zb ?_|refine zc ?_|refine ze ?_|refine zd ?_|refine zC ?_|refine zD ?_|refine zE ?_|refine zF ?_|refine zG ?_|refine zH ?_|refine zI ?_|refine zJ ?_|refine zK ?_|refine zL ?_|refine zM ?_|refine zN ?_|refine zO ?_|refine zP ?_|refine zQ ?_|refine zR ?_|refine zS ?_|refine zU ?_|refine zV ?_|refine zW ?_|refine zt (fun hcd => ?_) (fun hcd => ?_)|refine zu (fun hcd => ?_) (fun hcd => ?_)|refine zX ?_|refine zY ?_|refine zv (fun hcd => ?_) (fun hcd => ?_)|refine zk ?_|refine zl ?_|refine zm ?_|refine zn ?_|refine zf ?_|refine zg ?_|refine zj ?_|refine zZ ?_|refine zh ?_|refine zi ?_|refine zo ?_|refine zp ?_|refine zq ?_|refine zr ?_|refine zs ?_)
        refine r_append1_v (u := str ([40] ++ a ++ b ++ [41])) el32 rfl (by decide) hO3.own rfl rfl rfl (by simp; omega) hEp.size fun v' w' q h1 h2 h3 h4 => ?_
        have hC : Ch (fun g => wk.heap.size ≤ g) wp w' := Ch.grown h2 fun g hg => (World.ownsRow.lt hO3 g hg).1
        repeat' (first|refine za ?_|refine zA ?_|refine zB ?_|refine zb ?_|refine zc ?_|refine ze ?_|refine zd ?_|refine zC ?_|refine zD ?_|refine zE ?_|refine zF ?_|refine zG ?_|refine zH ?_|refine zI ?_|refine zJ ?_|refine zK ?_|refine zL ?_|refine zM ?_|refine zN ?_|refine zO ?_|refine zP ?_|refine zQ ?_|refine zR ?_|refine zS ?_|refine zU ?_|refine zV ?_|refine zW ?_|refine zt (fun hcd => ?_) (fun hcd => ?_)|refine zu (fun hcd => ?_) (fun hcd => ?_)|refine zX ?_|refine zY ?_|refine zv (fun hcd => ?_) (fun hcd => ?_)|refine zk ?_|refine zl ?_|refine zm ?_|refine zn ?_|refine zf ?_|refine zg ?_|refine zj ?_|refine zZ ?_|refine zh ?_|refine zi ?_|refine zo ?_|refine zp ?_|refine zq ?_|refine zr ?_|refine zs ?_)
        refine ⟨p + 1, v', ⟨rfl, rfl, trivial⟩, ⟨by omega, Ch.ext_new hEp hC (Nat.le_refl _), ?_⟩, by omega⟩
        refine OwnS.of ?_
        rw [hrs, ← List.append_assoc, ← hX, strs, List.map_append]
        exact h1
      · obtain rfl : p = B.length := by omega
        rw [List.take_length] at hO
        repeat' (first|refine za ?_|refine zA ?_|refine zB ?_|refine zb ?_|refine zc ?_|refine ze ?_|refine zd ?_|refine zC ?_|refine zD ?_|refine zE ?_|refine zF ?_|refine zG ?_|refine zH ?_|refine zI ?_|refine zJ ?_|refine zK ?_|refine zL ?_|refine zM ?_|refine zN ?_|refine zO ?_|refine zP ?_|refine zQ ?_|refine zR ?_|refine zS ?_|refine zU ?_|refine zV ?_|refine zW ?_|refine zt (fun hcd => ?_) (fun hcd => ?_)|refine zu (fun hcd => ?_) (fun hcd => ?_)|refine zX ?_|refine zY ?_|refine zv (fun hcd => ?_) (fun hcd => ?_)|refine zk ?_|refine zl ?_|refine zm ?_|refine zn ?_|refine zf ?_|refine zg ?_|refine zj ?_|refine zZ ?_|refine zh ?_|refine zi ?_|refine zo ?_|refine zp ?_|refine zq ?_|refine zr ?_|refine zs ?_)
        refine ⟨i + 1, .slice qx X.length cx, ⟨rfl, rfl, trivial⟩, ⟨by omega, hEp, ?_⟩, by omega⟩
        rw [hbs, ← List.append_assoc]
        exact hO
    · obtain rfl : i = A.length := by omega
      rw [List.take_length] at hO
      repeat' (first|refine za ?_|refine zA ?_|refine zB ?_|refine zb ?_|refine zc ?_|refine ze ?_|refine zd ?_|refine zC ?_|refine zD ?_|refine zE ?_|refine zF ?_|refine zG ?_|refine zH ?_|refine zI ?_|refine zJ ?_|refine zK ?_|refine zL ?_|refine zM ?_|refine zN ?_|refine zO ?_|refine zP ?_|refine zQ ?_|refine zR ?_|refine zS ?_|refine zU ?_|refine zV ?_|refine zW ?_|refine zt (fun hcd => ?_) (fun hcd => ?_)|refine zu (fun hcd => ?_) (fun hcd => ?_)|refine zX ?_|refine zY ?_|refine zv (fun hcd => ?_) (fun hcd => ?_)|refine zk ?_|refine zl ?_|refine zm ?_|refine zn ?_|refine zf ?_|refine zg ?_|refine zj ?_|refine zZ ?_|refine zh ?_|refine zi ?_|refine zo ?_|refine zp ?_|refine zq ?_|refine zr ?_|refine zs ?_)
      refine ⟨j + 1, .slice qy Y.length cy, ⟨rfl, rfl, trivial⟩, ⟨by omega, hEi, ?_⟩, by omega⟩
      rw [hps1]
      exact hO
  · obtain rfl : j = k + 1 := by omega
    have hsucc : al (k + 1) = al k ++ [sortS (preS (al k) k (k + 1))] := rfl
    generalize preS (al k) k (k + 1) = Z at *
    obtain ⟨qz, cz, ez, _⟩ := hO.strs.slice
    subst ez
    repeat' (first|refine za ?_|refine zA ?_|refine zB ?_|refine zb ?_|refine zc ?_|refine ze ?_|refine zd ?_|refine zC ?_|refine zD ?_|refine zE ?_|refine zF ?_|refine zG ?_|refine zH ?_|refine zI ?_|refine zJ ?_|refine zK ?_|refine zL ?_|refine zM ?_|refine zN ?_|refine zO ?_|refine zP ?_|refine zQ ?_|refine zR ?_|refine zS ?_|refine zU ?_|refine zV ?_|refine zW ?_|refine zt (fun hcd => ?_) (fun hcd => ?_)|refine zu (fun hcd => ?_) (fun hcd => ?_)|refine zX ?_|refine zY ?_|refine zv (fun hcd => ?_) (fun hcd => ?_)|refine zk ?_|refine zl ?_|refine zm ?_|refine zn ?_|refine zf ?_|refine zg ?_|refine zj ?_|refine zZ ?_|refine zh ?_|refine zi ?_|refine zo ?_|refine zp ?_|refine zq ?_|refine zr ?_|refine zs ?_)
    (refine r_call (R := ?_) rfl ?_ ?_; rotate_left 1; focus exact sort_any (.slice qz Z.length cz) Z wj wk.heap.size hO (by omega))
    rintro v5 w5 ⟨hO5, hC5⟩
    have hC5' : Ch (fun g => wk.heap.size ≤ g) wj w5 := hC5.mono fun g _ hg => (World.ownsRow.lt hO g hg).1
    have hE5 := Ch.ext_new hEj hC5' (Nat.le_refl _)
    obtain ⟨rows, hOr, hrl, hpush⟩ := (hT.ext hE5).push hO5.strs (fun g hg => World.ownsRow.lt hO5 g hg) hE5.size
    repeat' (first|refine za ?_|refine zA ?_|refine zB ?_|refine zb ?_|refine zc ?_|refine ze ?_|refine zd ?_|refine zC ?_|refine zD ?_|refine zE ?_|refine zF ?_|refine zG ?_|refine zH ?_|refine zI ?_|refine zJ ?_|refine zK ?_|refine zL ?_|refine zM ?_|refine zN ?_|refine zO ?_|refine zP ?_|refine zQ ?_|refine zR ?_|refine zS ?_|refine zU ?_|refine zV ?_|refine zW ?_|refine zt (fun hcd => ?_) (fun hcd => ?_)|refine zu (fun hcd => ?_) (fun hcd => ?_)|refine zX ?_|refine zY ?_|refine zv (fun hcd => ?_) (fun hcd => ?_)|refine zk ?_|refine zl ?_|refine zm ?_|refine zn ?_|refine zf ?_|refine zg ?_|refine zj ?_|refine zZ ?_|refine zh ?_|refine zi ?_|refine zo ?_|refine zp ?_|refine zq ?_|refine zr ?_|refine zs ?_)
    refine r_append1_v (u := .slice qz Z.length cz) el104 rfl (by decide) hOr rfl rfl rfl (by omega) (hE.trans hE5).size fun v' w' q h1 h2 h3 h4 => ?_
    have hT' := hpush v' w' h1 h2 h4
    have hC6 : Ch (fun g => w.heap.size ≤ g) w5 w' := Ch.grown h2 fun g hg => (hOr.lt g hg).1
    repeat' (first|refine za ?_|refine zA ?_|refine zB ?_|refine zb ?_|refine zc ?_|refine ze ?_|refine zd ?_|refine zC ?_|refine zD ?_|refine zE ?_|refine zF ?_|refine zG ?_|refine zH ?_|refine zI ?_|refine zJ ?_|refine zK ?_|refine zL ?_|refine zM ?_|refine zN ?_|refine zO ?_|refine zP ?_|refine zQ ?_|refine zR ?_|refine zS ?_|refine zU ?_|refine zV ?_|refine zW ?_|refine zt (fun hcd => ?_) (fun hcd => ?_)|refine zu (fun hcd => ?_) (fun hcd => ?_)|refine zX ?_|refine zY ?_|refine zv (fun hcd => ?_) (fun hcd => ?_)|refine zk ?_|refine zl ?_|refine zm ?_|refine zn ?_|refine zf ?_|refine zg ?_|refine zj ?_|refine zZ ?_|refine zh ?_|refine zi ?_|refine zo ?_|refine zp ?_|refine zq ?_|refine zr ?_|refine zs ?_)
    refine ⟨k + 1, v', ⟨?_, rfl, trivial⟩, ⟨by omega, Ch.ext_new (hE.trans hE5) hC6 (Nat.le_refl _), by rw [hsucc]; exact hT'⟩, by omega⟩
    show Value.int .i64 _ = Value.int .i64 _
    congr 1
end Go.Proofs.Ytkdakleckdkhiaa
