/- forks: slices.Sort of strings, by the kit's contract (its laying printed by tools/lays.py out of the kit's shelf); forks: small things about sorted lists of strings; forks: all trees of a size, the program's; forks: Item. -/
import Derived.Shelf.Sort.Plain
import Derived.Sort.OwnSorted
import Derived.Shelf.Slices.In.SortNone
import Derived.Test.YtocgehoffdjijaaGreatLi
import Derived.Test.YtocgehoffdjijaaGreatCl
import Derived.Test.YtocgehoffdjijaaGreatPF
/- forks: slices.Sort of strings, by the kit's contract (its laying printed by tools/lays.py out of the kit's shelf). -/
namespace Go.Proofs.YtocgehoffdjijaaGreat
open Go.Shelf
def lays190_ren : Go.Shelf.Ren := ⟨fun | 190 => 74 | 125 => 117 | 258 => 118 | 128 => 155 | 129 => 156 | 302 => 157 | 303 => 158 | 304 => 159 | 305 => 160 | 306 => 161 | 307 => 162 | 308 => 163 | 309 => 164 | 310 => 165 | 333 => 179 | 329 => 175 | 330 => 176 | 334 => 180 | 335 => 181 | 336 => 182 | 344 => 193 | n => n, fun | 31 => 84 | 9 => 9 | 3 => 3 | 46 => 82 | 0 => 0 | 51 => 225 | 53 => 227 | 4 => 4 | 183 => 219 | 182 => 218 | 131 => 133 | 5 => 5 | 218 => 239 | 222 => 175 | 228 => 252 | 229 => 253 | n => n, fun | n => n⟩
theorem lays190 : Go.Proofs.Lays.n190 Tryz.prog lays190_ren := {
  mixed := by kernel_rfl
  f125 := Tryz.func117.trans (congrArg some (by kernel_rfl))
  f128 := Tryz.func155.trans (congrArg some (by kernel_rfl))
  f129 := Tryz.func156.trans (congrArg some (by kernel_rfl))
  f190 := Tryz.func74.trans (congrArg some (by kernel_rfl))
  f258 := Tryz.func118.trans (congrArg some (by kernel_rfl))
  f302 := Tryz.func157.trans (congrArg some (by kernel_rfl))
  f303 := Tryz.func158.trans (congrArg some (by kernel_rfl))
  f304 := Tryz.func159.trans (congrArg some (by kernel_rfl))
  f305 := Tryz.func160.trans (congrArg some (by kernel_rfl))
  f306 := Tryz.func161.trans (congrArg some (by kernel_rfl))
  f307 := Tryz.func162.trans (congrArg some (by kernel_rfl))
  f308 := Tryz.func163.trans (congrArg some (by kernel_rfl))
  f309 := Tryz.func164.trans (congrArg some (by kernel_rfl))
  f310 := Tryz.func165.trans (congrArg some (by kernel_rfl))
  f329 := Tryz.func175.trans (congrArg some (by kernel_rfl))
  f330 := Tryz.func176.trans (congrArg some (by kernel_rfl))
  f333 := Tryz.func179.trans (congrArg some (by kernel_rfl))
  f334 := Tryz.func180.trans (congrArg some (by kernel_rfl))
  f335 := Tryz.func181.trans (congrArg some (by kernel_rfl))
  f336 := Tryz.func182.trans (congrArg some (by kernel_rfl))
  f344 := Tryz.func193.trans (congrArg some (by kernel_rfl))
  t0 := Tryz.underlying0
  a0 := Tryz.isAgg0
  z0 := Tryz.sizeOf0
  v0 := Tryz.zeroValue0
  t3 := Tryz.underlying3
  a3 := Tryz.isAgg3
  z3 := Tryz.sizeOf3
  v3 := Tryz.zeroValue3
  t4 := Tryz.underlying4
  a4 := Tryz.isAgg4
  z4 := Tryz.sizeOf4
  v4 := Tryz.zeroValue4
  t5 := Tryz.underlying5
  a5 := Tryz.isAgg5
  z5 := Tryz.sizeOf5
  v5 := Tryz.zeroValue5
  t9 := Tryz.underlying9
  a9 := Tryz.isAgg9
  z9 := Tryz.sizeOf9
  v9 := Tryz.zeroValue9
  t31 := Tryz.underlying84
  a31 := Tryz.isAgg84
  z31 := Tryz.sizeOf84
  v31 := Tryz.zeroValue84
  t46 := Tryz.underlying82
  a46 := Tryz.isAgg82
  z46 := Tryz.sizeOf82
  v46 := Tryz.zeroValue82
  t51 := Tryz.underlying225
  a51 := Tryz.isAgg225
  z51 := Tryz.sizeOf225
  v51 := Tryz.zeroValue225
  t53 := Tryz.underlying227
  a53 := Tryz.isAgg227
  z53 := Tryz.sizeOf227
  v53 := Tryz.zeroValue227
  t131 := Tryz.underlying133
  a131 := Tryz.isAgg133
  z131 := Tryz.sizeOf133
  v131 := Tryz.zeroValue133
  t182 := Tryz.underlying218
  a182 := Tryz.isAgg218
  z182 := Tryz.sizeOf218
  v182 := Tryz.zeroValue218
  t183 := Tryz.underlying219
  a183 := Tryz.isAgg219
  z183 := Tryz.sizeOf219
  v183 := Tryz.zeroValue219
  t218 := Tryz.underlying239
  a218 := Tryz.isAgg239
  z218 := Tryz.sizeOf239
  v218 := Tryz.zeroValue239
  t222 := Tryz.underlying175
  a222 := Tryz.isAgg175
  z222 := Tryz.sizeOf175
  v222 := Tryz.zeroValue175
  t228 := Tryz.underlying252
  a228 := Tryz.isAgg252
  z228 := Tryz.sizeOf252
  v228 := Tryz.zeroValue252
  t229 := Tryz.underlying253
  a229 := Tryz.isAgg253
  z229 := Tryz.sizeOf253
  v229 := Tryz.zeroValue253 }

open Gv
theorem sortS_any (g c : Nat) (L : List Str) (w : World) (base : Nat) (h : OwnS w base (.slice (some ⟨g, 0, none⟩) L.length c) L) (hl : L.length < 4611686018427387904) :
    Calls Tryz.prog 74 #[.slice (some ⟨g, 0, none⟩) L.length c] w (Ret fun _ w' => OwnS w' base (.slice (some ⟨g, 0, none⟩) L.length c) (L.mergeSort fun x y => decide (x ≤ y)) ∧ w.grownBy w' (some g)) := by
  rcases h.2 with ⟨hv, _⟩ | ⟨g', cap, cur, hv, hb, hg, hnc, hcm, hcs, htk⟩
  · cases hv
  · cases hv
    have hls : (L.mergeSort fun x y => decide (x ≤ y)).length = L.length := (List.mergeSort_perm L _).length_eq
    have hH : Go.Sort.Holds encStr w g 0 L.toArray := holds_of_block hg (by simpa using htk)
    refine (Any.slices_Sort_string lays190 g 0 c L w hH (Array.getElem?_eq_some_iff.1 hg).1 hl).mono ?_
    rintro e w' ⟨rfl, n, os, rfl⟩
    refine ⟨_, rfl, ?_, grownBy_sorted _⟩
    have := ownsRow_sorted (n := n) (os := os) (ss := L) (ts := L.mergeSort fun x y => decide (x ≤ y)) hls hb hg hnc hcm hcs
    unfold OwnS
    rw [hls]
    exact this
abbrev sortS (L : List Str) : List Str := L.mergeSort fun x y => decide (x ≤ y)
/-- slices.Sort of an owned list, nil or not. -/
theorem sort_any (v : Value) (L : List Str) (w : World) (base : Nat) (h : OwnS w base v L) (hl : L.length < 4611686018427387904) :
    Calls Tryz.prog 74 #[v] w (Ret fun _ w' => OwnS w' base v (sortS L) ∧ Ch (fun k => v.ownBlock = some k) w w') := by
  rcases h.2 with ⟨hv, hn⟩ | ⟨g, cap, cur, rfl, hb, hg, hnc, hcm, hcs, htk⟩
  · subst hv
    have hL : L = [] := List.length_eq_zero_iff.1 hn
    subst hL
    refine (Any.slices_Sort_string_none lays190 none 0 w).mono ?_
    rintro e w' ⟨rfl, rfl⟩
    exact ⟨_, rfl, by simpa [sortS] using h, Ch.refl _ _⟩
  · refine Ret.mono (sortS_any g cap L w base h hl) fun v w' ⟨h1, h2⟩ => ⟨h1, Ch.grown h2 fun k e => by simpa [Value.ownBlock] using e⟩
end Go.Proofs.YtocgehoffdjijaaGreat
/- forks: small things about sorted lists of strings. -/
namespace Go.Proofs.YtocgehoffdjijaaGreat
open Gv
theorem mem_sortS {L : List Str} {s : Str} : s ∈ sortS L ↔ s ∈ L := (List.mergeSort_perm L _).mem_iff
theorem sortS_len (L : List Str) : (sortS L).length = L.length := (List.mergeSort_perm L _).length_eq
theorem getD_memS {L : List Str} {i : Nat} (h : i < L.length) : L.getD i [] ∈ L := getD_mem h
theorem strs_get0 {L : List Str} {i : Nat} {q : Option Addr} {n c : Nat} {w : World} (h : Strs w (.slice q n c) L) (hi : i < L.length) {j : Int} (hj : j = i) : rd w (pidx q j.toNat 1) = some (str (L.getD i [])) := by
  subst hj; rw [Int.toNat_natCast]; exact Strs.rd h hi
end Go.Proofs.YtocgehoffdjijaaGreat
/- forks: all trees of a size, the program's. -/
namespace Go.Proofs.YtocgehoffdjijaaGreat
namespace Gv
open Go.RowKit
/-- A table of lists of strings: its rows lie below hi, beside the table's own block. -/
def TabF (w : World) (lo hi : Nat) (v : Value) (T : List (List Str)) : Prop :=
  ∃ rows : List Value, Own w lo 84 v rows ∧ rows.length = T.length ∧ (∀ (i : Nat) (u : Value), rows[i]? = some u → Strs w u (T.getD i []) ∧ ∀ g, u.ownBlock = some g → g < hi ∧ v.ownBlock ≠ some g) ∧ ∀ g, v.ownBlock = some g → g < hi
theorem TabF.ext {w w' : World} {lo hi : Nat} {v : Value} {T : List (List Str)} (h : TabF w lo hi v T) (hc : Ext w w') : TabF w' lo hi v T := by
  obtain ⟨rows, h1, h2, h3, h4⟩ := h
  exact ⟨rows, h1.ext hc, h2, fun i u hu => ⟨(h3 i u hu).1.ext hc, (h3 i u hu).2⟩, h4⟩
theorem TabF.slice {w : World} {lo hi : Nat} {v : Value} {T : List (List Str)} (h : TabF w lo hi v T) : ∃ q c, v = .slice q T.length c ∧ T.length ≤ c := by
  obtain ⟨rows, h1, h2, _⟩ := h
  rw [← h2]; exact Sl.slice h1.sl
theorem TabF.isSome {w : World} {lo hi n c : Nat} {q : Option Addr} {T : List (List Str)} (h : TabF w lo hi (.slice q n c) T) (hl : 0 < T.length) : q.isSome = true := by
  obtain ⟨rows, h1, h2, _⟩ := h
  exact Sl.isSome h1.sl (by omega)
theorem TabF.rd0 {w : World} {lo hi n c : Nat} {q : Option Addr} {T : List (List Str)} (h : TabF w lo hi (.slice q n c) T) {i : Nat} {j : Int} (hi' : i < T.length) (hj : j = i) :
    ∃ p m, Gv.rd w (pidx q j.toNat 1) = some (.slice p (T.getD i []).length m) ∧ Strs w (.slice p (T.getD i []).length m) (T.getD i []) := by
  subst hj
  obtain ⟨rows, h1, h2, h3, _⟩ := h
  have hr : rows[i]? = some rows[i] := List.getElem?_eq_getElem (by omega)
  obtain ⟨hS, _⟩ := h3 i _ hr
  obtain ⟨p, m, e, _⟩ := hS.slice
  rw [e] at hr hS
  exact ⟨p, m, by rw [Int.toNat_natCast]; exact Sl.rd1 h1.sl i hr, hS⟩
theorem TabF.push {w : World} {lo hi : Nat} {v u : Value} {T : List (List Str)} {L : List Str} (h : TabF w lo hi v T) (hu : Strs w u L) (hb : ∀ g, u.ownBlock = some g → hi ≤ g ∧ g < w.heap.size) (hhi : hi ≤ w.heap.size) :
    ∃ rows, Own w lo 84 v rows ∧ rows.length = T.length ∧ ∀ v' w', Own w' lo 84 v' (rows ++ [u]) → w.grownBy w' v.ownBlock → (∀ g, v'.ownBlock = some g → v.ownBlock = some g ∨ w.heap.size ≤ g) → TabF w' lo w'.heap.size v' (T ++ [L]) := by
  obtain ⟨rows, h1, h2, h3, h4⟩ := h
  refine ⟨rows, h1, h2, fun v' w' g1 g2 g3 => ⟨rows ++ [u], g1, by simp [h2], fun i z hz => ?_, fun g hg => (g1.lt g hg).2⟩⟩
  have hC : Ch (fun k => v.ownBlock = some k) w w' := Ch.grown g2 fun k e => e
  have hsz := g2.size
  by_cases hi1 : i < rows.length
  · rw [List.getElem?_append_left hi1] at hz
    obtain ⟨a1, a2⟩ := h3 i z hz
    have e : (T ++ [L]).getD i [] = T.getD i [] := by simp only [List.getD_eq_getElem?_getD]; rw [List.getElem?_append_left (by omega)]
    rw [e]
    refine ⟨a1.keep hC fun g hg hv => (a2 g hg).2 hv, fun g hg => ⟨by have := (a2 g hg).1; omega, fun hv => ?_⟩⟩
    rcases g3 g hv with hv | hv
    · exact (a2 g hg).2 hv
    · have := (a2 g hg).1; omega
  · rw [List.getElem?_append_right (by omega)] at hz
    have hi2 : i = rows.length := by
      have : i - rows.length < 1 := by
        have := (List.getElem?_eq_some_iff.1 hz).1
        simpa using this
      omega
    subst hi2
    simp at hz
    subst hz
    have e : (T ++ [L]).getD rows.length [] = L := by simp only [List.getD_eq_getElem?_getD]; rw [List.getElem?_append_right (by omega), h2]; simp
    rw [e]
    refine ⟨hu.keep hC fun g hg hv => ?_, fun g hg => ⟨by have := (hb g hg).2; omega, fun hv => ?_⟩⟩
    · have := h4 g hv; have := (hb g hg).1; omega
    · rcases g3 g hv with hv | hv
      · have := h4 g hv; have := (hb g hg).1; omega
      · have := (hb g hg).2; omega
end Gv
open Gv
theorem al_row_len {k j : Nat} (hk : k ≤ 10) : ((al k).getD j []).length ≤ 16796 := by
  by_cases h : j ≤ k
  · rw [al_get h]; exact allS_len (by omega)
  · have := al_len k
    rw [List.getD_eq_getElem?_getD, List.getElem?_eq_none (by omega)]; simp
theorem al_row_text {k j i : Nat} (hk : k ≤ 10) (hi : i < ((al k).getD j []).length) : (((al k).getD j []).getD i []).length ≤ 31 := by
  by_cases h : j ≤ k
  · rw [al_get h] at hi ⊢
    have := allS_text (getD_mem (d := []) hi)
    omega
  · have := al_len k
    rw [List.getD_eq_getElem?_getD, List.getElem?_eq_none (by omega)] at hi; simp at hi
theorem blk_bnd {Z A B : List Str} {l : Str} {i p : Nat} (hz : Z.length ≤ 16796) (ha : A.length ≤ 16796) (hb : B.length ≤ 16796) : (Z ++ blkS (A.take i) B ++ rowS l (B.take p)).length ≤ 400000000 := by
  have h1 : (A.take i).length ≤ 16796 := by simp; omega
  have h2 : (B.take p).length ≤ 16796 := by simp; omega
  have := Nat.mul_le_mul h1 hb
  simp only [List.length_append, blkS_len, rowS_len]
  omega
theorem al_one (w wa wb : World) (h1 : Gv.Own wa w.heap.size 9 (.slice (some ⟨w.heap.size, 0, none⟩) 1 1) [str [46]]) (h2 : Gv.Own wb wa.heap.size 84 (.slice (some ⟨wa.heap.size, 0, none⟩) 1 1) [.slice (some ⟨w.heap.size, 0, none⟩) 1 1]) (hs1 : wa.heap.size = w.heap.size + 1) (hE2 : Ext wa wb) :
    TabF wb w.heap.size wb.heap.size (.slice (some ⟨wa.heap.size, 0, none⟩) 1 1) (al 0) := by
  have l2 := h2.lt wa.heap.size rfl
  refine ⟨_, ownsRow_mono h2 (by omega), rfl, fun i u hu => ?_, fun g hg => (h2.lt g hg).2⟩
  have hi : i = 0 := by have := (List.getElem?_eq_some_iff.1 hu).1; simp at this; exact this
  subst hi
  simp at hu
  subst hu
  refine ⟨Gv.Strs.ext (Gv.Own.sl h1) hE2, fun g hg => ?_⟩
  have e : g = w.heap.size := by simpa [Value.ownBlock] using hg.symm
  subst e
  refine ⟨by omega, fun hv => ?_⟩
  have : wa.heap.size = w.heap.size := by simpa [Value.ownBlock] using hv
  omega
set_option maxRecDepth 20000 in
set_option maxHeartbeats 8000000 in
theorem all_any (n : Nat) (w : World) (hn : n ≤ 10) : Calls Tryz.prog 36 #[.int .i64 (n : Int)] w (Ret fun v w' => Strs w' v (allS n) ∧ Ext w w') := by
  refine calls_of_wc (args := [.int .i64 (n : Int)]) Tryz.func36 rfl ?_ ?_; kernel_rfl
  repeat' (first|refine za ?_|refine zA ?_|refine zB ?_|refine zb ?_|refine zc ?_|refine ze ?_|refine zd ?_|refine zC ?_|refine zD ?_|refine zE ?_|refine zF ?_|refine zG ?_|refine zH ?_|refine zI ?_|refine zJ ?_|refine zK ?_|refine zL ?_|refine zM ?_|refine zN ?_|refine zO ?_|refine zP ?_|refine zQ ?_|refine zR ?_|refine zS ?_|refine zU ?_|refine zV ?_|refine zW ?_|refine zt (fun hcd => ?_) (fun hcd => ?_)|refine zu (fun hcd => ?_) (fun hcd => ?_)|refine zX ?_|refine zY ?_|refine zv (fun hcd => ?_) (fun hcd => ?_)|refine zk ?_|refine zl ?_|refine zm ?_|refine zn ?_|refine zf ?_|refine zg ?_|refine zj ?_|refine zZ ?_|refine zh ?_|refine zi ?_|refine zo ?_|refine zp ?_|refine zq ?_|refine zr ?_|refine zs ?_)
  refine r_buildS1 (u := str [46]) el32 rfl rfl fun wa hOa hEa hsa => ?_
  repeat' (first|refine za ?_|refine zA ?_|refine zB ?_|refine zb ?_|refine zc ?_|refine ze ?_|refine zd ?_|refine zC ?_|refine zD ?_|refine zE ?_|refine zF ?_|refine zG ?_|refine zH ?_|refine zI ?_|refine zJ ?_|refine zK ?_|refine zL ?_|refine zM ?_|refine zN ?_|refine zO ?_|refine zP ?_|refine zQ ?_|refine zR ?_|refine zS ?_|refine zU ?_|refine zV ?_|refine zW ?_|refine zt (fun hcd => ?_) (fun hcd => ?_)|refine zu (fun hcd => ?_) (fun hcd => ?_)|refine zX ?_|refine zY ?_|refine zv (fun hcd => ?_) (fun hcd => ?_)|refine zk ?_|refine zl ?_|refine zm ?_|refine zn ?_|refine zf ?_|refine zg ?_|refine zj ?_|refine zZ ?_|refine zh ?_|refine zi ?_|refine zo ?_|refine zp ?_|refine zq ?_|refine zr ?_|refine zs ?_)
  refine r_buildS1 (u := .slice (some ⟨w.heap.size, 0, none⟩) 1 1) el104 rfl rfl fun wb hOb hEb hsb => ?_
  repeat' (first|refine za ?_|refine zA ?_|refine zB ?_|refine zb ?_|refine zc ?_|refine ze ?_|refine zd ?_|refine zC ?_|refine zD ?_|refine zE ?_|refine zF ?_|refine zG ?_|refine zH ?_|refine zI ?_|refine zJ ?_|refine zK ?_|refine zL ?_|refine zM ?_|refine zN ?_|refine zO ?_|refine zP ?_|refine zQ ?_|refine zR ?_|refine zS ?_|refine zU ?_|refine zV ?_|refine zW ?_|refine zt (fun hcd => ?_) (fun hcd => ?_)|refine zu (fun hcd => ?_) (fun hcd => ?_)|refine zX ?_|refine zY ?_|refine zv (fun hcd => ?_) (fun hcd => ?_)|refine zk ?_|refine zl ?_|refine zm ?_|refine zn ?_|refine zf ?_|refine zg ?_|refine zj ?_|refine zZ ?_|refine zh ?_|refine zi ?_|refine zo ?_|refine zp ?_|refine zq ?_|refine zr ?_|refine zs ?_)
  refine wc_loop2 [0] (fun (k : Nat) (vt : Value) => [(4, .int .i64 ((k : Int) + 1)), (3, vt)]) (fun k vt wk => k ≤ n ∧ Ext w wk ∧ TabF wk w.heap.size wk.heap.size vt (al k)) (fun k _ => n - k) 0 (.slice (some ⟨wa.heap.size, 0, none⟩) 1 1) rfl ⟨rfl, rfl, trivial⟩ ⟨by omega, hEa.trans hEb, al_one w wa wb hOa hOb hsa hEb⟩ ?_
  rintro k vt wk x ⟨hk, hE, hT⟩
  obtain ⟨qt, ct, rfl, hct⟩ := hT.slice
  have hal := al_len k
  have hps := hT.isSome (by omega)
  by_cases hkn : k < n
  rotate_left 1
  · obtain rfl : k = n := by omega
    obtain ⟨q, m, hr, hS⟩ := hT.rd0 (i := k) (j := (k : Int)) (by omega) rfl
    rw [al_get (Nat.le_refl _)] at hr hS
    obtain ⟨L, hL⟩ : ∃ L, L = allS k := ⟨_, rfl⟩
    rw [← hL] at hr hS
    repeat' (first|refine za ?_|refine zA ?_|refine zB ?_|refine zb ?_|refine zc ?_|refine ze ?_|refine zd ?_|refine zC ?_|refine zD ?_|refine zE ?_|refine zF ?_|refine zG ?_|refine zH ?_|refine zI ?_|refine zJ ?_|refine zK ?_|refine zL ?_|refine zM ?_|refine zN ?_|refine zO ?_|refine zP ?_|refine zQ ?_|refine zR ?_|refine zS ?_|refine zU ?_|refine zV ?_|refine zW ?_|refine zt (fun hcd => ?_) (fun hcd => ?_)|refine zu (fun hcd => ?_) (fun hcd => ?_)|refine zX ?_|refine zY ?_|refine zv (fun hcd => ?_) (fun hcd => ?_)|refine zk ?_|refine zl ?_|refine zm ?_|refine zn ?_|refine zf ?_|refine zg ?_|refine zj ?_|refine zZ ?_|refine zh ?_|refine zi ?_|refine zo ?_|refine zp ?_|refine zq ?_|refine zr ?_|refine zs ?_)
    refine post1 (v := .slice q L.length m) rfl rfl ?_
    rw [← hL]
    exact ⟨hS, hE⟩
  repeat' (first|refine za ?_|refine zA ?_|refine zB ?_|refine zb ?_|refine zc ?_|refine ze ?_|refine zd ?_|refine zC ?_|refine zD ?_|refine zE ?_|refine zF ?_|refine zG ?_|refine zH ?_|refine zI ?_|refine zJ ?_|refine zK ?_|refine zL ?_|refine zM ?_|refine zN ?_|refine zO ?_|refine zP ?_|refine zQ ?_|refine zR ?_|refine zS ?_|refine zU ?_|refine zV ?_|refine zW ?_|refine zt (fun hcd => ?_) (fun hcd => ?_)|refine zu (fun hcd => ?_) (fun hcd => ?_)|refine zX ?_|refine zY ?_|refine zv (fun hcd => ?_) (fun hcd => ?_)|refine zk ?_|refine zl ?_|refine zm ?_|refine zn ?_|refine zf ?_|refine zg ?_|refine zj ?_|refine zZ ?_|refine zh ?_|refine zi ?_|refine zo ?_|refine zp ?_|refine zq ?_|refine zr ?_|refine zs ?_)
  refine wc_loop2 [0, 3, 4, 18] (fun (j : Nat) (vo : Value) => [(19, .int .i64 j), (5, vo)]) (fun j vo wj => j ≤ k + 1 ∧ Ext wk wj ∧ OwnS wj wk.heap.size vo (preS (al k) k j)) (fun j _ => k + 1 - j) 0 (.slice none 0 0) rfl ⟨rfl, rfl, trivial⟩ ⟨by omega, Ext.refl _, World.ownsRow_nil _ _ _ _⟩ ?_
  rintro j vo wj x2 ⟨hj, hEj, hO⟩
  have hpb := preS_bnd (m := k) (k := j) (by omega) hj
  by_cases hjk : j < k + 1
  · obtain ⟨qa, ma, hra, hSa⟩ := hT.rd0 (i := j) (j := (j : Int)) (by omega) rfl
    obtain ⟨qb, mb, hrb, hSb⟩ := hT.rd0 (i := k - j) (j := (k : Int) + 1 - 1 - j) (by omega) (by omega)
    have hla := al_row_len (k := k) (j := j) (by omega)
    have hlb := al_row_len (k := k) (j := k - j) (by omega)
    have hta := fun i => al_row_text (k := k) (j := j) (i := i) (by omega)
    have htb := fun i => al_row_text (k := k) (j := k - j) (i := i) (by omega)
    have hps1 := preS_succ (al k) k j
    generalize (al k).getD j [] = A at *
    generalize (al k).getD (k - j) [] = B at *
    generalize preS (al k) k j = Z at *
    obtain ⟨qz, cz, ez, _⟩ := hO.strs.slice
    subst ez
    have hra' := rd_ext hra hEj
    repeat' (first|refine za ?_|refine zA ?_|refine zB ?_|refine zb ?_|refine zc ?_|refine ze ?_|refine zd ?_|refine zC ?_|refine zD ?_|refine zE ?_|refine zF ?_|refine zG ?_|refine zH ?_|refine zI ?_|refine zJ ?_|refine zK ?_|refine zL ?_|refine zM ?_|refine zN ?_|refine zO ?_|refine zP ?_|refine zQ ?_|refine zR ?_|refine zS ?_|refine zU ?_|refine zV ?_|refine zW ?_|refine zt (fun hcd => ?_) (fun hcd => ?_)|refine zu (fun hcd => ?_) (fun hcd => ?_)|refine zX ?_|refine zY ?_|refine zv (fun hcd => ?_) (fun hcd => ?_)|refine zk ?_|refine zl ?_|refine zm ?_|refine zn ?_|refine zf ?_|refine zg ?_|refine zj ?_|refine zZ ?_|refine zh ?_|refine zi ?_|refine zo ?_|refine zp ?_|refine zq ?_|refine zr ?_|refine zs ?_)
    refine wc_loop2 [0, 3, 4, 18, 19, 6, 25, 26] (fun (i : Nat) (vo : Value) => [(27, .int .i64 i), (5, vo)]) (fun i vo wi => i ≤ A.length ∧ Ext wk wi ∧ OwnS wi wk.heap.size vo (Z ++ blkS (A.take i) B)) (fun i _ => A.length - i) 0 (.slice qz Z.length cz) rfl ⟨rfl, rfl, trivial⟩ ⟨by omega, hEj, by simpa [blkS] using hO⟩ ?_
    rintro i vo wi x3 ⟨hi, hEi, hO⟩
    obtain ⟨Y, hY⟩ : ∃ Y, Y = Z ++ blkS (A.take i) B := ⟨_, rfl⟩
    have hO2 := hO
    rw [← hY] at hO2
    obtain ⟨qy, cy, ey, _⟩ := hO2.strs.slice
    subst ey
    by_cases hiA : i < A.length
    · have hpa := hSa.isSome (by omega)
      have hrai := strs_get0 (hSa.ext hEi) hiA (j := (i : Int)) rfl
      have hrb' := rd_ext hrb hEi
      have htai := hta i hiA
      have hbs := blkS_take (B := B) hiA
      generalize A.getD i [] = a at *
      repeat' (first|refine za ?_|refine zA ?_|refine zB ?_|refine zb ?_|refine zc ?_|refine ze ?_|refine zd ?_|refine zC ?_|refine zD ?_|refine zE ?_|refine zF ?_|refine zG ?_|refine zH ?_|refine zI ?_|refine zJ ?_|refine zK ?_|refine zL ?_|refine zM ?_|refine zN ?_|refine zO ?_|refine zP ?_|refine zQ ?_|refine zR ?_|refine zS ?_|refine zU ?_|refine zV ?_|refine zW ?_|refine zt (fun hcd => ?_) (fun hcd => ?_)|refine zu (fun hcd => ?_) (fun hcd => ?_)|refine zX ?_|refine zY ?_|refine zv (fun hcd => ?_) (fun hcd => ?_)|refine zk ?_|refine zl ?_|refine zm ?_|refine zn ?_|refine zf ?_|refine zg ?_|refine zj ?_|refine zZ ?_|refine zh ?_|refine zi ?_|refine zo ?_|refine zp ?_|refine zq ?_|refine zr ?_|refine zs ?_)
      refine wc_loop2 [0, 3, 4, 18, 19, 6, 8, 25, 26, 27, 37, 38] (fun (p : Nat) (vo : Value) => [(39, .int .i64 p), (5, vo)]) (fun p vo wp => p ≤ B.length ∧ Ext wk wp ∧ OwnS wp wk.heap.size vo (Z ++ blkS (A.take i) B ++ rowS a (B.take p))) (fun p _ => B.length - p) 0 (.slice qy Y.length cy) rfl ⟨rfl, rfl, trivial⟩ ⟨by omega, hEi, by simpa [rowS] using hO⟩ ?_
      rintro p vo wp x4 ⟨hp, hEp, hO⟩
      have hbb := blk_bnd (l := a) (i := i) (p := p) hpb hla hlb
      obtain ⟨X, hX⟩ : ∃ X, X = Z ++ blkS (A.take i) B ++ rowS a (B.take p) := ⟨_, rfl⟩
      have hO3 := hO
      rw [← hX] at hO3 hbb
      obtain ⟨qx, cx, ex, _⟩ := hO3.strs.slice
      subst ex
      by_cases hpB : p < B.length
      · have hpb2 := hSb.isSome (by omega)
        have hrbp := strs_get0 (hSb.ext hEp) hpB (j := (p : Int)) rfl
        have htbp := htb p hpB
        have hrs := rowS_take (l := a) hpB
        generalize B.getD p [] = b at *
        repeat' (first|refine za ?_|refine zA ?_|refine zB ?_|refine zb ?_|refine zc ?_|refine ze ?_|refine zd ?_|refine zC ?_|refine zD ?_|refine zE ?_|refine zF ?_|refine zG ?_|refine zH ?_|refine zI ?_|refine zJ ?_|refine zK ?_|refine zL ?_|refine zM ?_|refine zN ?_|refine zO ?_|refine zP ?_|refine zQ ?_|refine zR ?_|refine zS ?_|refine zU ?_|refine zV ?_|refine zW ?_|refine zt (fun hcd => ?_) (fun hcd => ?_)|refine zu (fun hcd => ?_) (fun hcd => ?_)|refine zX ?_|refine zY ?_|refine zv (fun hcd => ?_) (fun hcd => ?_)|refine zk ?_|refine zl ?_|refine zm ?_|refine zn ?_|refine zf ?_|refine zg ?_|refine zj ?_|refine zZ ?_|refine zh ?_|refine zi ?_|refine zo ?_|refine zp ?_|refine zq ?_|refine zr ?_|refine zs ?_)
        refine r_sadd (a := [40]) (b := a) rfl rfl (by simp; omega) ?_
        repeat' (first|refine za ?_|refine zA ?_|refine zB ?_|refine zb ?_|refine zc ?_|refine ze ?_|refine zd ?_|refine zC ?_|refine zD ?_|refine zE ?_|refine zF ?_|refine zG ?_|refine zH ?_|refine zI ?_|refine zJ ?_|refine zK ?_|refine zL ?_|refine zM ?_|refine zN ?_|refine zO ?_|refine zP ?_|refine zQ ?_|refine zR ?_|refine zS ?_|refine zU ?_|refine zV ?_|refine zW ?_|refine zt (fun hcd => ?_) (fun hcd => ?_)|refine zu (fun hcd => ?_) (fun hcd => ?_)|refine zX ?_|refine zY ?_|refine zv (fun hcd => ?_) (fun hcd => ?_)|refine zk ?_|refine zl ?_|refine zm ?_|refine zn ?_|refine zf ?_|refine zg ?_|refine zj ?_|refine zZ ?_|refine zh ?_|refine zi ?_|refine zo ?_|refine zp ?_|refine zq ?_|refine zr ?_|refine zs ?_)
        refine r_sadd (a := [40] ++ a) (b := b) rfl rfl (by simp; omega) ?_
        repeat' (first|refine za ?_|refine zA ?_|refine zB ?_|refine zb ?_|refine zc ?_|refine ze ?_|refine zd ?_|refine zC ?_|refine zD ?_|refine zE ?_|refine zF ?_|refine zG ?_|refine zH ?_|refine zI ?_|refine zJ ?_|refine zK ?_|refine zL ?_|refine zM ?_|refine zN ?_|refine zO ?_|refine zP ?_|refine zQ ?_|refine zR ?_|refine zS ?_|refine zU ?_|refine zV ?_|refine zW ?_|refine zt (fun hcd => ?_) (fun hcd => ?_)|refine zu (fun hcd => ?_) (fun hcd => ?_)|refine zX ?_|refine zY ?_|refine zv (fun hcd => ?_) (fun hcd => ?_)|refine zk ?_|refine zl ?_|refine zm ?_|refine zn ?_|refine zf ?_|refine zg ?_|refine zj ?_|refine zZ ?_|refine zh ?_|refine zi ?_|refine zo ?_|refine zp ?_|refine zq ?_|refine zr ?_|refine zs ?_)
        refine r_sadd (a := [40] ++ a ++ b) (b := [41]) rfl rfl (by simp; omega) ?_
        repeat' (first|refine za ?_|refine zA ?_|refine zB ?_|refine zb ?_|refine zc ?_|refine ze ?_|refine zd ?_|refine zC ?_|refine zD ?_|refine zE ?_|refine zF ?_|refine zG ?_|refine zH ?_|refine zI ?_|refine zJ ?_|refine zK ?_|refine zL ?_|refine zM ?_|refine zN ?_|refine zO ?_|refine zP ?_|refine zQ ?_|refine zR ?_|refine zS ?_|refine zU ?_|refine zV ?_|refine zW ?_|refine zt (fun hcd => ?_) (fun hcd => ?_)|refine zu (fun hcd => ?_) (fun hcd => ?_)|refine zX ?_|refine zY ?_|refine zv (fun hcd => ?_) (fun hcd => ?_)|refine zk ?_|refine zl ?_|refine zm ?_|refine zn ?_|refine zf ?_|refine zg ?_|refine zj ?_|refine zZ ?_|refine zh ?_|refine zi ?_|refine zo ?_|refine zp ?_|refine zq ?_|refine zr ?_|refine zs ?_)
        refine r_append1_v (u := str ([40] ++ a ++ b ++ [41])) el32 rfl (by decide) hO3.own rfl rfl rfl (by simp; omega) hEp.size fun v' w' q h1 h2 h3 h4 => ?_
        have hC : Ch (fun g => wk.heap.size ≤ g) wp w' := Ch.grown h2 fun g hg => (World.ownsRow.lt hO3 g hg).1
        repeat' (first|refine za ?_|refine zA ?_|refine zB ?_|refine zb ?_|refine zc ?_|refine ze ?_|refine zd ?_|refine zC ?_|refine zD ?_|refine zE ?_|refine zF ?_|refine zG ?_|refine zH ?_|refine zI ?_|refine zJ ?_|refine zK ?_|refine zL ?_|refine zM ?_|refine zN ?_|refine zO ?_|refine zP ?_|refine zQ ?_|refine zR ?_|refine zS ?_|refine zU ?_|refine zV ?_|refine zW ?_|refine zt (fun hcd => ?_) (fun hcd => ?_)|refine zu (fun hcd => ?_) (fun hcd => ?_)|refine zX ?_|refine zY ?_|refine zv (fun hcd => ?_) (fun hcd => ?_)|refine zk ?_|refine zl ?_|refine zm ?_|refine zn ?_|refine zf ?_|refine zg ?_|refine zj ?_|refine zZ ?_|refine zh ?_|refine zi ?_|refine zo ?_|refine zp ?_|refine zq ?_|refine zr ?_|refine zs ?_)
        refine ⟨p + 1, v', ⟨rfl, rfl, trivial⟩, ⟨by omega, Ch.ext_new hEp hC (Nat.le_refl _), ?_⟩, by omega⟩
        refine OwnS.of ?_
        rw [hrs, ← List.append_assoc, ← hX, strs, List.map_append]
        exact h1
      · obtain rfl : p = B.length := by omega
        rw [List.take_length] at hO
        repeat' (first|refine za ?_|refine zA ?_|refine zB ?_|refine zb ?_|refine zc ?_|refine ze ?_|refine zd ?_|refine zC ?_|refine zD ?_|refine zE ?_|refine zF ?_|refine zG ?_|refine zH ?_|refine zI ?_|refine zJ ?_|refine zK ?_|refine zL ?_|refine zM ?_|refine zN ?_|refine zO ?_|refine zP ?_|refine zQ ?_|refine zR ?_|refine zS ?_|refine zU ?_|refine zV ?_|refine zW ?_|refine zt (fun hcd => ?_) (fun hcd => ?_)|refine zu (fun hcd => ?_) (fun hcd => ?_)|refine zX ?_|refine zY ?_|refine zv (fun hcd => ?_) (fun hcd => ?_)|refine zk ?_|refine zl ?_|refine zm ?_|refine zn ?_|refine zf ?_|refine zg ?_|refine zj ?_|refine zZ ?_|refine zh ?_|refine zi ?_|refine zo ?_|refine zp ?_|refine zq ?_|refine zr ?_|refine zs ?_)
        refine ⟨i + 1, .slice qx X.length cx, ⟨rfl, rfl, trivial⟩, ⟨by omega, hEp, ?_⟩, by omega⟩
        rw [hbs, ← List.append_assoc]
        exact hO
    · obtain rfl : i = A.length := by omega
      rw [List.take_length] at hO
      repeat' (first|refine za ?_|refine zA ?_|refine zB ?_|refine zb ?_|refine zc ?_|refine ze ?_|refine zd ?_|refine zC ?_|refine zD ?_|refine zE ?_|refine zF ?_|refine zG ?_|refine zH ?_|refine zI ?_|refine zJ ?_|refine zK ?_|refine zL ?_|refine zM ?_|refine zN ?_|refine zO ?_|refine zP ?_|refine zQ ?_|refine zR ?_|refine zS ?_|refine zU ?_|refine zV ?_|refine zW ?_|refine zt (fun hcd => ?_) (fun hcd => ?_)|refine zu (fun hcd => ?_) (fun hcd => ?_)|refine zX ?_|refine zY ?_|refine zv (fun hcd => ?_) (fun hcd => ?_)|refine zk ?_|refine zl ?_|refine zm ?_|refine zn ?_|refine zf ?_|refine zg ?_|refine zj ?_|refine zZ ?_|refine zh ?_|refine zi ?_|refine zo ?_|refine zp ?_|refine zq ?_|refine zr ?_|refine zs ?_)
      refine ⟨j + 1, .slice qy Y.length cy, ⟨rfl, rfl, trivial⟩, ⟨by omega, hEi, ?_⟩, by omega⟩
      rw [hps1]
      exact hO
  · obtain rfl : j = k + 1 := by omega
    have hsucc : al (k + 1) = al k ++ [sortS (preS (al k) k (k + 1))] := rfl
    generalize preS (al k) k (k + 1) = Z at *
    obtain ⟨qz, cz, ez, _⟩ := hO.strs.slice
    subst ez
    repeat' (first|refine za ?_|refine zA ?_|refine zB ?_|refine zb ?_|refine zc ?_|refine ze ?_|refine zd ?_|refine zC ?_|refine zD ?_|refine zE ?_|refine zF ?_|refine zG ?_|refine zH ?_|refine zI ?_|refine zJ ?_|refine zK ?_|refine zL ?_|refine zM ?_|refine zN ?_|refine zO ?_|refine zP ?_|refine zQ ?_|refine zR ?_|refine zS ?_|refine zU ?_|refine zV ?_|refine zW ?_|refine zt (fun hcd => ?_) (fun hcd => ?_)|refine zu (fun hcd => ?_) (fun hcd => ?_)|refine zX ?_|refine zY ?_|refine zv (fun hcd => ?_) (fun hcd => ?_)|refine zk ?_|refine zl ?_|refine zm ?_|refine zn ?_|refine zf ?_|refine zg ?_|refine zj ?_|refine zZ ?_|refine zh ?_|refine zi ?_|refine zo ?_|refine zp ?_|refine zq ?_|refine zr ?_|refine zs ?_)
    (refine r_call (R := ?_) rfl ?_ ?_; rotate_left 1; focus exact sort_any (.slice qz Z.length cz) Z wj wk.heap.size hO (by omega))
    rintro v5 w5 ⟨hO5, hC5⟩
    have hC5' : Ch (fun g => wk.heap.size ≤ g) wj w5 := hC5.mono fun g _ hg => (World.ownsRow.lt hO g hg).1
    have hE5 := Ch.ext_new hEj hC5' (Nat.le_refl _)
    obtain ⟨rows, hOr, hrl, hpush⟩ := (hT.ext hE5).push hO5.strs (fun g hg => World.ownsRow.lt hO5 g hg) hE5.size
    repeat' (first|refine za ?_|refine zA ?_|refine zB ?_|refine zb ?_|refine zc ?_|refine ze ?_|refine zd ?_|refine zC ?_|refine zD ?_|refine zE ?_|refine zF ?_|refine zG ?_|refine zH ?_|refine zI ?_|refine zJ ?_|refine zK ?_|refine zL ?_|refine zM ?_|refine zN ?_|refine zO ?_|refine zP ?_|refine zQ ?_|refine zR ?_|refine zS ?_|refine zU ?_|refine zV ?_|refine zW ?_|refine zt (fun hcd => ?_) (fun hcd => ?_)|refine zu (fun hcd => ?_) (fun hcd => ?_)|refine zX ?_|refine zY ?_|refine zv (fun hcd => ?_) (fun hcd => ?_)|refine zk ?_|refine zl ?_|refine zm ?_|refine zn ?_|refine zf ?_|refine zg ?_|refine zj ?_|refine zZ ?_|refine zh ?_|refine zi ?_|refine zo ?_|refine zp ?_|refine zq ?_|refine zr ?_|refine zs ?_)
    refine r_append1_v (u := .slice qz Z.length cz) el104 rfl (by decide) hOr rfl rfl rfl (by omega) (hE.trans hE5).size fun v' w' q h1 h2 h3 h4 => ?_
    have hT' := hpush v' w' h1 h2 h4
    have hC6 : Ch (fun g => w.heap.size ≤ g) w5 w' := Ch.grown h2 fun g hg => (hOr.lt g hg).1
    repeat' (first|refine za ?_|refine zA ?_|refine zB ?_|refine zb ?_|refine zc ?_|refine ze ?_|refine zd ?_|refine zC ?_|refine zD ?_|refine zE ?_|refine zF ?_|refine zG ?_|refine zH ?_|refine zI ?_|refine zJ ?_|refine zK ?_|refine zL ?_|refine zM ?_|refine zN ?_|refine zO ?_|refine zP ?_|refine zQ ?_|refine zR ?_|refine zS ?_|refine zU ?_|refine zV ?_|refine zW ?_|refine zt (fun hcd => ?_) (fun hcd => ?_)|refine zu (fun hcd => ?_) (fun hcd => ?_)|refine zX ?_|refine zY ?_|refine zv (fun hcd => ?_) (fun hcd => ?_)|refine zk ?_|refine zl ?_|refine zm ?_|refine zn ?_|refine zf ?_|refine zg ?_|refine zj ?_|refine zZ ?_|refine zh ?_|refine zi ?_|refine zo ?_|refine zp ?_|refine zq ?_|refine zr ?_|refine zs ?_)
    refine ⟨k + 1, v', ⟨?_, rfl, trivial⟩, ⟨by omega, Ch.ext_new (hE.trans hE5) hC6 (Nat.le_refl _), by rw [hsucc]; exact hT'⟩, by omega⟩
    show Value.int .i64 _ = Value.int .i64 _
    congr 1
end Go.Proofs.YtocgehoffdjijaaGreat
/- forks: Item. -/
namespace Go.Proofs.YtocgehoffdjijaaGreat
open Gv
theorem within_any (n lo hi : Int) (w : World) : Calls Tryz.prog 35 #[.int .i64 n, .int .i64 lo, .int .i64 hi] w (Ret fun v w' => v = .bool (decide (lo ≤ n ∧ n ≤ hi)) ∧ w' = w) := by
  refine calls_of_wc (args := [.int .i64 n, .int .i64 lo, .int .i64 hi]) Tryz.func35 rfl ?_ ?_; kernel_rfl
  by_cases h1 : lo ≤ n
  · by_cases h2 : n ≤ hi
    · repeat' (first|refine za ?_|refine zA ?_|refine zB ?_|refine zb ?_|refine zc ?_|refine ze ?_|refine zd ?_|refine zC ?_|refine zD ?_|refine zE ?_|refine zF ?_|refine zG ?_|refine zH ?_|refine zI ?_|refine zJ ?_|refine zK ?_|refine zL ?_|refine zM ?_|refine zN ?_|refine zO ?_|refine zP ?_|refine zQ ?_|refine zR ?_|refine zS ?_|refine zU ?_|refine zV ?_|refine zW ?_|refine zt (fun hcd => ?_) (fun hcd => ?_)|refine zu (fun hcd => ?_) (fun hcd => ?_)|refine zX ?_|refine zY ?_|refine zv (fun hcd => ?_) (fun hcd => ?_)|refine zk ?_|refine zl ?_|refine zm ?_|refine zn ?_|refine zf ?_|refine zg ?_|refine zj ?_|refine zZ ?_|refine zh ?_|refine zi ?_|refine zo ?_|refine zp ?_|refine zq ?_|refine zr ?_|refine zs ?_)
      refine post1 (v := .bool true) rfl rfl ?_
      exact ⟨congrArg Value.bool (decide_eq_true ⟨h1, h2⟩).symm, rfl⟩
    · repeat' (first|refine za ?_|refine zA ?_|refine zB ?_|refine zb ?_|refine zc ?_|refine ze ?_|refine zd ?_|refine zC ?_|refine zD ?_|refine zE ?_|refine zF ?_|refine zG ?_|refine zH ?_|refine zI ?_|refine zJ ?_|refine zK ?_|refine zL ?_|refine zM ?_|refine zN ?_|refine zO ?_|refine zP ?_|refine zQ ?_|refine zR ?_|refine zS ?_|refine zU ?_|refine zV ?_|refine zW ?_|refine zt (fun hcd => ?_) (fun hcd => ?_)|refine zu (fun hcd => ?_) (fun hcd => ?_)|refine zX ?_|refine zY ?_|refine zv (fun hcd => ?_) (fun hcd => ?_)|refine zk ?_|refine zl ?_|refine zm ?_|refine zn ?_|refine zf ?_|refine zg ?_|refine zj ?_|refine zZ ?_|refine zh ?_|refine zi ?_|refine zo ?_|refine zp ?_|refine zq ?_|refine zr ?_|refine zs ?_)
      refine post1 (v := .bool false) rfl rfl ?_
      exact ⟨congrArg Value.bool (decide_eq_false fun h => h2 h.2).symm, rfl⟩
  · repeat' (first|refine za ?_|refine zA ?_|refine zB ?_|refine zb ?_|refine zc ?_|refine ze ?_|refine zd ?_|refine zC ?_|refine zD ?_|refine zE ?_|refine zF ?_|refine zG ?_|refine zH ?_|refine zI ?_|refine zJ ?_|refine zK ?_|refine zL ?_|refine zM ?_|refine zN ?_|refine zO ?_|refine zP ?_|refine zQ ?_|refine zR ?_|refine zS ?_|refine zU ?_|refine zV ?_|refine zW ?_|refine zt (fun hcd => ?_) (fun hcd => ?_)|refine zu (fun hcd => ?_) (fun hcd => ?_)|refine zX ?_|refine zY ?_|refine zv (fun hcd => ?_) (fun hcd => ?_)|refine zk ?_|refine zl ?_|refine zm ?_|refine zn ?_|refine zf ?_|refine zg ?_|refine zj ?_|refine zZ ?_|refine zh ?_|refine zi ?_|refine zo ?_|refine zp ?_|refine zq ?_|refine zr ?_|refine zs ?_)
    refine post1 (v := .bool false) rfl rfl ?_
    exact ⟨congrArg Value.bool (decide_eq_false fun h => h1 h.1).symm, rfl⟩
def GoodT (s : Str) (at_ : Int) (right : Bool) (u : Value) : Prop := ∃ (t : T) (k : Nat) (y : T), s = t.text ∧ t.size ≤ 10 ∧ at_ = k ∧ k < t.size ∧ t.turn k right = some y ∧ u = str y.text
def ErrT (s : Str) (at_ : Int) (right : Bool) (e : Int) : Prop := (e = 4 ∧ ¬ IsT s) ∨ (e = 2 ∧ ∃ t : T, s = t.text ∧ t.size ≤ 10 ∧ ¬ (0 ≤ at_ ∧ at_ < t.size)) ∨ (e = 6 ∧ ∃ (t : T) (k : Nat), s = t.text ∧ t.size ≤ 10 ∧ at_ = k ∧ k < t.size ∧ t.turn k right = none)
set_option maxRecDepth 20000 in
set_option maxHeartbeats 2000000 in
set_option maxRecDepth 20000 in
set_option maxHeartbeats 1000000 in
theorem Item_any (n i : Int) (w : World) : Calls Tryz.prog 10 #[.int .i64 n, .int .i64 i] w (Ret fun v w' => Ext w w' ∧ ((∃ m k : Nat, n = m ∧ m ≤ 10 ∧ i = k ∧ k < (allS m).length ∧ v = .tuple #[str ((allS m).getD k []), .int .i64 0]) ∨ (¬ (∃ m k : Nat, n = m ∧ m ≤ 10 ∧ i = k ∧ k < (allS m).length) ∧ v = .tuple #[str [], .int .i64 2]))) := by
  refine calls_of_wc (args := [.int .i64 n, .int .i64 i]) Tryz.func10 rfl ?_ ?_; kernel_rfl
  repeat' (first|refine za ?_|refine zA ?_|refine zB ?_|refine zb ?_|refine zc ?_|refine ze ?_|refine zd ?_|refine zC ?_|refine zD ?_|refine zE ?_|refine zF ?_|refine zG ?_|refine zH ?_|refine zI ?_|refine zJ ?_|refine zK ?_|refine zL ?_|refine zM ?_|refine zN ?_|refine zO ?_|refine zP ?_|refine zQ ?_|refine zR ?_|refine zS ?_|refine zU ?_|refine zV ?_|refine zW ?_|refine zt (fun hcd => ?_) (fun hcd => ?_)|refine zu (fun hcd => ?_) (fun hcd => ?_)|refine zX ?_|refine zY ?_|refine zv (fun hcd => ?_) (fun hcd => ?_)|refine zk ?_|refine zl ?_|refine zm ?_|refine zn ?_|refine zf ?_|refine zg ?_|refine zj ?_|refine zZ ?_|refine zh ?_|refine zi ?_|refine zo ?_|refine zp ?_|refine zq ?_|refine zr ?_|refine zs ?_)
  (refine r_call (R := ?_) rfl ?_ ?_; rotate_left 1; focus exact within_any n 0 10 w)
  rintro v w1 ⟨rfl, hw⟩
  subst w1
  by_cases hr : 0 ≤ n ∧ n ≤ 10
  rotate_left 1
  · repeat' (first|refine za ?_|refine zA ?_|refine zB ?_|refine zb ?_|refine zc ?_|refine ze ?_|refine zd ?_|refine zC ?_|refine zD ?_|refine zE ?_|refine zF ?_|refine zG ?_|refine zH ?_|refine zI ?_|refine zJ ?_|refine zK ?_|refine zL ?_|refine zM ?_|refine zN ?_|refine zO ?_|refine zP ?_|refine zQ ?_|refine zR ?_|refine zS ?_|refine zU ?_|refine zV ?_|refine zW ?_|refine zt (fun hcd => ?_) (fun hcd => ?_)|refine zu (fun hcd => ?_) (fun hcd => ?_)|refine zX ?_|refine zY ?_|refine zv (fun hcd => ?_) (fun hcd => ?_)|refine zk ?_|refine zl ?_|refine zm ?_|refine zn ?_|refine zf ?_|refine zg ?_|refine zj ?_|refine zZ ?_|refine zh ?_|refine zi ?_|refine zo ?_|refine zp ?_|refine zq ?_|refine zr ?_|refine zs ?_)
    · refine post2 (v1 := str []) (v2 := .int .i64 2) rfl rfl rfl ?_
      exact ⟨Ext.refl _, .inr ⟨fun ⟨m, k, h1, h2, _⟩ => hr (by omega), rfl⟩⟩
    · exact absurd (Decidable.not_not.1 hcd) hr
  obtain ⟨m, rfl⟩ : ∃ m : Nat, n = m := ⟨n.toNat, by omega⟩
  repeat' (first|refine za ?_|refine zA ?_|refine zB ?_|refine zb ?_|refine zc ?_|refine ze ?_|refine zd ?_|refine zC ?_|refine zD ?_|refine zE ?_|refine zF ?_|refine zG ?_|refine zH ?_|refine zI ?_|refine zJ ?_|refine zK ?_|refine zL ?_|refine zM ?_|refine zN ?_|refine zO ?_|refine zP ?_|refine zQ ?_|refine zR ?_|refine zS ?_|refine zU ?_|refine zV ?_|refine zW ?_|refine zt (fun hcd => ?_) (fun hcd => ?_)|refine zu (fun hcd => ?_) (fun hcd => ?_)|refine zX ?_|refine zY ?_|refine zv (fun hcd => ?_) (fun hcd => ?_)|refine zk ?_|refine zl ?_|refine zm ?_|refine zn ?_|refine zf ?_|refine zg ?_|refine zj ?_|refine zZ ?_|refine zh ?_|refine zi ?_|refine zo ?_|refine zp ?_|refine zq ?_|refine zr ?_|refine zs ?_)
  · exact absurd hr hcd
  (refine r_call (R := ?_) rfl ?_ ?_; rotate_left 1; focus exact all_any m w (by omega))
  rintro v1 w1 ⟨hS1, hE1⟩
  obtain ⟨q1, c1, e1, _⟩ := hS1.slice
  subst e1
  have hal := allS_len (n := m) (by omega)
  obtain ⟨L, hL⟩ : ∃ L, L = allS m := ⟨_, rfl⟩
  rw [← hL] at hS1 hal ⊢
  repeat' (first|refine za ?_|refine zA ?_|refine zB ?_|refine zb ?_|refine zc ?_|refine ze ?_|refine zd ?_|refine zC ?_|refine zD ?_|refine zE ?_|refine zF ?_|refine zG ?_|refine zH ?_|refine zI ?_|refine zJ ?_|refine zK ?_|refine zL ?_|refine zM ?_|refine zN ?_|refine zO ?_|refine zP ?_|refine zQ ?_|refine zR ?_|refine zS ?_|refine zU ?_|refine zV ?_|refine zW ?_|refine zt (fun hcd => ?_) (fun hcd => ?_)|refine zu (fun hcd => ?_) (fun hcd => ?_)|refine zX ?_|refine zY ?_|refine zv (fun hcd => ?_) (fun hcd => ?_)|refine zk ?_|refine zl ?_|refine zm ?_|refine zn ?_|refine zf ?_|refine zg ?_|refine zj ?_|refine zZ ?_|refine zh ?_|refine zi ?_|refine zo ?_|refine zp ?_|refine zq ?_|refine zr ?_|refine zs ?_)
  (refine r_call (R := ?_) rfl ?_ ?_; rotate_left 1; focus exact within_any i 0 ((L.length : Int) - 1) w1)
  rintro v w2 ⟨rfl, hw⟩
  subst w2
  by_cases hi : 0 ≤ i ∧ i ≤ (L.length : Int) - 1
  rotate_left 1
  · repeat' (first|refine za ?_|refine zA ?_|refine zB ?_|refine zb ?_|refine zc ?_|refine ze ?_|refine zd ?_|refine zC ?_|refine zD ?_|refine zE ?_|refine zF ?_|refine zG ?_|refine zH ?_|refine zI ?_|refine zJ ?_|refine zK ?_|refine zL ?_|refine zM ?_|refine zN ?_|refine zO ?_|refine zP ?_|refine zQ ?_|refine zR ?_|refine zS ?_|refine zU ?_|refine zV ?_|refine zW ?_|refine zt (fun hcd => ?_) (fun hcd => ?_)|refine zu (fun hcd => ?_) (fun hcd => ?_)|refine zX ?_|refine zY ?_|refine zv (fun hcd => ?_) (fun hcd => ?_)|refine zk ?_|refine zl ?_|refine zm ?_|refine zn ?_|refine zf ?_|refine zg ?_|refine zj ?_|refine zZ ?_|refine zh ?_|refine zi ?_|refine zo ?_|refine zp ?_|refine zq ?_|refine zr ?_|refine zs ?_)
    · refine post2 (v1 := str []) (v2 := .int .i64 2) rfl rfl rfl ?_
      refine ⟨hE1, .inr ⟨fun ⟨m', k, h1, h2, h3, h4⟩ => hi ?_, rfl⟩⟩
      obtain rfl : m = m' := by omega
      rw [← hL] at h4
      omega
    · exact absurd (Decidable.not_not.1 hcd) hi
  obtain ⟨k, rfl⟩ : ∃ k : Nat, i = k := ⟨i.toNat, by omega⟩
  have hps := hS1.isSome (by omega)
  have hrk := strs_get0 hS1 (by omega : k < L.length) (j := (k : Int)) rfl
  obtain ⟨s, hs⟩ : ∃ s, s = L.getD k [] := ⟨_, rfl⟩
  rw [← hs] at hrk
  repeat' (first|refine za ?_|refine zA ?_|refine zB ?_|refine zb ?_|refine zc ?_|refine ze ?_|refine zd ?_|refine zC ?_|refine zD ?_|refine zE ?_|refine zF ?_|refine zG ?_|refine zH ?_|refine zI ?_|refine zJ ?_|refine zK ?_|refine zL ?_|refine zM ?_|refine zN ?_|refine zO ?_|refine zP ?_|refine zQ ?_|refine zR ?_|refine zS ?_|refine zU ?_|refine zV ?_|refine zW ?_|refine zt (fun hcd => ?_) (fun hcd => ?_)|refine zu (fun hcd => ?_) (fun hcd => ?_)|refine zX ?_|refine zY ?_|refine zv (fun hcd => ?_) (fun hcd => ?_)|refine zk ?_|refine zl ?_|refine zm ?_|refine zn ?_|refine zf ?_|refine zg ?_|refine zj ?_|refine zZ ?_|refine zh ?_|refine zi ?_|refine zo ?_|refine zp ?_|refine zq ?_|refine zr ?_|refine zs ?_)
  · exact absurd hi hcd
  refine post2 (v1 := str s) (v2 := .int .i64 0) rfl rfl rfl ?_
  exact ⟨hE1, .inl ⟨m, k, rfl, by omega, rfl, by rw [← hL]; omega, by rw [← hL, ← hs]⟩⟩
end Go.Proofs.YtocgehoffdjijaaGreat
