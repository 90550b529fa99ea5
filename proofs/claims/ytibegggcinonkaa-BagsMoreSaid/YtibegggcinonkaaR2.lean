/- bags: the reference's Heads, Height. -/
import Derived.Test.YtibegggcinonkaaCP
namespace Go.Proofs.Ytibegggcinonkaa
open Gv
set_option maxRecDepth 20000 in
set_option maxHeartbeats 4000000 in
theorem heads_any (ve vh : Value) (L : List (Int × Int)) (H : List Int) (w : World) (h : Pairs2 w ve L) (hH : Ints w vh H) (hl : L.length ≤ 1000) :
    Calls Try.prog 18 #[ve, vh] w (Ret fun v w' => v = .bool (decide (OkH L H)) ∧ Ext w w') := by
  obtain ⟨qe, ce, rfl, hqe⟩ := h.slice
  obtain ⟨qh, ch, rfl, hqh⟩ := hH.slice
  refine calls_of_wc (args := [.slice qe L.length ce, .slice qh H.length ch]) Try.func18 rfl ?_ ?_; kernel_rfl
  by_cases hlen : H.length = L.length
  rotate_left 1
  · repeat' (first|refine za ?_|refine zA ?_|refine zB ?_|refine zb ?_|refine zc ?_|refine ze ?_|refine zd ?_|refine zC ?_|refine zD ?_|refine zE ?_|refine zF ?_|refine zG ?_|refine zH ?_|refine zI ?_|refine zJ ?_|refine zK ?_|refine zL ?_|refine zM ?_|refine zN ?_|refine zO ?_|refine zP ?_|refine zQ ?_|refine zR ?_|refine zS ?_|refine zU ?_|refine zV ?_|refine zW ?_|refine zt (fun hcd => ?_) (fun hcd => ?_)|refine zu (fun hcd => ?_) (fun hcd => ?_)|refine zX ?_|refine zY ?_|refine zv (fun hcd => ?_) (fun hcd => ?_)|refine zk ?_|refine zl ?_|refine zm ?_|refine zn ?_|refine zf ?_|refine zg ?_|refine zj ?_|refine zZ ?_|refine zh ?_|refine zi ?_|refine zo ?_|refine zp ?_|refine zq ?_|refine zr ?_|refine zs ?_)
    refine post1 (v := .bool false) rfl rfl ?_
    exact ⟨congrArg Value.bool (decide_eq_false fun c => hlen c.1).symm, Ext.refl _⟩
  repeat' (first|refine za ?_|refine zA ?_|refine zB ?_|refine zb ?_|refine zc ?_|refine ze ?_|refine zd ?_|refine zC ?_|refine zD ?_|refine zE ?_|refine zF ?_|refine zG ?_|refine zH ?_|refine zI ?_|refine zJ ?_|refine zK ?_|refine zL ?_|refine zM ?_|refine zN ?_|refine zO ?_|refine zP ?_|refine zQ ?_|refine zR ?_|refine zS ?_|refine zU ?_|refine zV ?_|refine zW ?_|refine zt (fun hcd => ?_) (fun hcd => ?_)|refine zu (fun hcd => ?_) (fun hcd => ?_)|refine zX ?_|refine zY ?_|refine zv (fun hcd => ?_) (fun hcd => ?_)|refine zk ?_|refine zl ?_|refine zm ?_|refine zn ?_|refine zf ?_|refine zg ?_|refine zj ?_|refine zZ ?_|refine zh ?_|refine zi ?_|refine zo ?_|refine zp ?_|refine zq ?_|refine zr ?_|refine zs ?_)
  refine wc_loop [0, 1] (fun (i : Nat) => [(5, .int .i64 i)]) (fun i wk => i ≤ L.length ∧ (∀ k, k < i → H.getD k 0 = (ed L k).1 ∨ H.getD k 0 = (ed L k).2) ∧ Ext w wk) (fun i => L.length - i) 0 rfl ⟨rfl, trivial⟩ ⟨by omega, fun k hk => by omega, Ext.refl _⟩ ?_
  rintro i wk x ⟨hi, hok, hE⟩
  by_cases hin : i < L.length
  · have hEd := hE.trans (Ext.drew wk)
    obtain ⟨e0, e1⟩ := (h.ext hEd).rd hin
    have hes := h.isSome (by omega)
    have hhs := hH.isSome (by omega)
    have hr := (hH.ext hEd).rd (i := i) (by omega)
    change rd _ _ = some (.int .i64 (ed L i).1) at e0
    change rd _ _ = some (.int .i64 (ed L i).2) at e1
    have hbad : ¬ (H.getD i 0 = (ed L i).1 ∨ H.getD i 0 = (ed L i).2) → decide (OkH L H) = false := fun c => decide_eq_false fun hh => c (hh.2 i hin)
    have hgood : (H.getD i 0 = (ed L i).1 ∨ H.getD i 0 = (ed L i).2) → ∀ k, k < i + 1 → H.getD k 0 = (ed L k).1 ∨ H.getD k 0 = (ed L k).2 := fun c k hk => by
      by_cases e : k = i
      · subst e; exact c
      · exact hok k (by omega)
    generalize hvv : H.getD i 0 = v at *
    generalize (ed L i).1 = a at *
    generalize (ed L i).2 = b at *
    repeat' (first|refine za ?_|refine zA ?_|refine zB ?_|refine zb ?_|refine zc ?_|refine ze ?_|refine zd ?_|refine zC ?_|refine zD ?_|refine zE ?_|refine zF ?_|refine zG ?_|refine zH ?_|refine zI ?_|refine zJ ?_|refine zK ?_|refine zL ?_|refine zM ?_|refine zN ?_|refine zO ?_|refine zP ?_|refine zQ ?_|refine zR ?_|refine zS ?_|refine zU ?_|refine zV ?_|refine zW ?_|refine zt (fun hcd => ?_) (fun hcd => ?_)|refine zu (fun hcd => ?_) (fun hcd => ?_)|refine zX ?_|refine zY ?_|refine zv (fun hcd => ?_) (fun hcd => ?_)|refine zk ?_|refine zl ?_|refine zm ?_|refine zn ?_|refine zf ?_|refine zg ?_|refine zj ?_|refine zZ ?_|refine zh ?_|refine zi ?_|refine zo ?_|refine zp ?_|refine zq ?_|refine zr ?_|refine zs ?_)
    (refine wc_drawn 21 (by kernel_rfl) (by kernel_rfl) ?_; simp only [List.take_succ_cons, List.take_zero, List.drop_succ_cons, List.drop_zero])
    repeat' (first|refine za ?_|refine zA ?_|refine zB ?_|refine zb ?_|refine zc ?_|refine ze ?_|refine zd ?_|refine zC ?_|refine zD ?_|refine zE ?_|refine zF ?_|refine zG ?_|refine zH ?_|refine zI ?_|refine zJ ?_|refine zK ?_|refine zL ?_|refine zM ?_|refine zN ?_|refine zO ?_|refine zP ?_|refine zQ ?_|refine zR ?_|refine zS ?_|refine zU ?_|refine zV ?_|refine zW ?_|refine zt (fun hcd => ?_) (fun hcd => ?_)|refine zu (fun hcd => ?_) (fun hcd => ?_)|refine zX ?_|refine zY ?_|refine zv (fun hcd => ?_) (fun hcd => ?_)|refine zk ?_|refine zl ?_|refine zm ?_|refine zn ?_|refine zf ?_|refine zg ?_|refine zj ?_|refine zZ ?_|refine zh ?_|refine zi ?_|refine zo ?_|refine zp ?_|refine zq ?_|refine zr ?_|refine zs ?_)
    refine r_faQ fo46_0 rfl (pidx_isSome hes) ?_
    by_cases c1 : v = a
    · repeat' (first|refine za ?_|refine zA ?_|refine zB ?_|refine zb ?_|refine zc ?_|refine ze ?_|refine zd ?_|refine zC ?_|refine zD ?_|refine zE ?_|refine zF ?_|refine zG ?_|refine zH ?_|refine zI ?_|refine zJ ?_|refine zK ?_|refine zL ?_|refine zM ?_|refine zN ?_|refine zO ?_|refine zP ?_|refine zQ ?_|refine zR ?_|refine zS ?_|refine zU ?_|refine zV ?_|refine zW ?_|refine zt (fun hcd => ?_) (fun hcd => ?_)|refine zu (fun hcd => ?_) (fun hcd => ?_)|refine zX ?_|refine zY ?_|refine zv (fun hcd => ?_) (fun hcd => ?_)|refine zk ?_|refine zl ?_|refine zm ?_|refine zn ?_|refine zf ?_|refine zg ?_|refine zj ?_|refine zZ ?_|refine zh ?_|refine zi ?_|refine zo ?_|refine zp ?_|refine zq ?_|refine zr ?_|refine zs ?_)
      exact ⟨i + 1, ⟨rfl, trivial⟩, ⟨by omega, hgood (.inl c1), hEd⟩, by omega⟩
    · by_cases c2 : v = b
      · repeat' (first|refine za ?_|refine zA ?_|refine zB ?_|refine zb ?_|refine zc ?_|refine ze ?_|refine zd ?_|refine zC ?_|refine zD ?_|refine zE ?_|refine zF ?_|refine zG ?_|refine zH ?_|refine zI ?_|refine zJ ?_|refine zK ?_|refine zL ?_|refine zM ?_|refine zN ?_|refine zO ?_|refine zP ?_|refine zQ ?_|refine zR ?_|refine zS ?_|refine zU ?_|refine zV ?_|refine zW ?_|refine zt (fun hcd => ?_) (fun hcd => ?_)|refine zu (fun hcd => ?_) (fun hcd => ?_)|refine zX ?_|refine zY ?_|refine zv (fun hcd => ?_) (fun hcd => ?_)|refine zk ?_|refine zl ?_|refine zm ?_|refine zn ?_|refine zf ?_|refine zg ?_|refine zj ?_|refine zZ ?_|refine zh ?_|refine zi ?_|refine zo ?_|refine zp ?_|refine zq ?_|refine zr ?_|refine zs ?_)
        refine r_faQ fo46_1 rfl (pidx_isSome hes) ?_
        repeat' (first|refine za ?_|refine zA ?_|refine zB ?_|refine zb ?_|refine zc ?_|refine ze ?_|refine zd ?_|refine zC ?_|refine zD ?_|refine zE ?_|refine zF ?_|refine zG ?_|refine zH ?_|refine zI ?_|refine zJ ?_|refine zK ?_|refine zL ?_|refine zM ?_|refine zN ?_|refine zO ?_|refine zP ?_|refine zQ ?_|refine zR ?_|refine zS ?_|refine zU ?_|refine zV ?_|refine zW ?_|refine zt (fun hcd => ?_) (fun hcd => ?_)|refine zu (fun hcd => ?_) (fun hcd => ?_)|refine zX ?_|refine zY ?_|refine zv (fun hcd => ?_) (fun hcd => ?_)|refine zk ?_|refine zl ?_|refine zm ?_|refine zn ?_|refine zf ?_|refine zg ?_|refine zj ?_|refine zZ ?_|refine zh ?_|refine zi ?_|refine zo ?_|refine zp ?_|refine zq ?_|refine zr ?_|refine zs ?_)
        exact ⟨i + 1, ⟨rfl, trivial⟩, ⟨by omega, hgood (.inr c2), hEd⟩, by omega⟩
      · repeat' (first|refine za ?_|refine zA ?_|refine zB ?_|refine zb ?_|refine zc ?_|refine ze ?_|refine zd ?_|refine zC ?_|refine zD ?_|refine zE ?_|refine zF ?_|refine zG ?_|refine zH ?_|refine zI ?_|refine zJ ?_|refine zK ?_|refine zL ?_|refine zM ?_|refine zN ?_|refine zO ?_|refine zP ?_|refine zQ ?_|refine zR ?_|refine zS ?_|refine zU ?_|refine zV ?_|refine zW ?_|refine zt (fun hcd => ?_) (fun hcd => ?_)|refine zu (fun hcd => ?_) (fun hcd => ?_)|refine zX ?_|refine zY ?_|refine zv (fun hcd => ?_) (fun hcd => ?_)|refine zk ?_|refine zl ?_|refine zm ?_|refine zn ?_|refine zf ?_|refine zg ?_|refine zj ?_|refine zZ ?_|refine zh ?_|refine zi ?_|refine zo ?_|refine zp ?_|refine zq ?_|refine zr ?_|refine zs ?_)
        refine r_faQ fo46_1 rfl (pidx_isSome hes) ?_
        repeat' (first|refine za ?_|refine zA ?_|refine zB ?_|refine zb ?_|refine zc ?_|refine ze ?_|refine zd ?_|refine zC ?_|refine zD ?_|refine zE ?_|refine zF ?_|refine zG ?_|refine zH ?_|refine zI ?_|refine zJ ?_|refine zK ?_|refine zL ?_|refine zM ?_|refine zN ?_|refine zO ?_|refine zP ?_|refine zQ ?_|refine zR ?_|refine zS ?_|refine zU ?_|refine zV ?_|refine zW ?_|refine zt (fun hcd => ?_) (fun hcd => ?_)|refine zu (fun hcd => ?_) (fun hcd => ?_)|refine zX ?_|refine zY ?_|refine zv (fun hcd => ?_) (fun hcd => ?_)|refine zk ?_|refine zl ?_|refine zm ?_|refine zn ?_|refine zf ?_|refine zg ?_|refine zj ?_|refine zZ ?_|refine zh ?_|refine zi ?_|refine zo ?_|refine zp ?_|refine zq ?_|refine zr ?_|refine zs ?_)
        refine post1 (v := .bool false) rfl rfl ?_
        exact ⟨by rw [hbad fun c => c.elim c1 c2], hEd⟩
  · have : i = L.length := by omega
    subst this
    repeat' (first|refine za ?_|refine zA ?_|refine zB ?_|refine zb ?_|refine zc ?_|refine ze ?_|refine zd ?_|refine zC ?_|refine zD ?_|refine zE ?_|refine zF ?_|refine zG ?_|refine zH ?_|refine zI ?_|refine zJ ?_|refine zK ?_|refine zL ?_|refine zM ?_|refine zN ?_|refine zO ?_|refine zP ?_|refine zQ ?_|refine zR ?_|refine zS ?_|refine zU ?_|refine zV ?_|refine zW ?_|refine zt (fun hcd => ?_) (fun hcd => ?_)|refine zu (fun hcd => ?_) (fun hcd => ?_)|refine zX ?_|refine zY ?_|refine zv (fun hcd => ?_) (fun hcd => ?_)|refine zk ?_|refine zl ?_|refine zm ?_|refine zn ?_|refine zf ?_|refine zg ?_|refine zj ?_|refine zZ ?_|refine zh ?_|refine zi ?_|refine zo ?_|refine zp ?_|refine zq ?_|refine zr ?_|refine zs ?_)
    refine post1 (v := .bool true) rfl rfl ?_
    exact ⟨congrArg Value.bool (decide_eq_true ⟨hlen, hok⟩).symm, hE⟩
/-- The count so far and its greatest number. -/
theorem cntH_lt {H : List Int} {m : Nat} (hr : ∀ x, x ∈ H → 0 ≤ x ∧ x < m) {u : Nat} (hu : m ≤ u) : cntH u H = 0 := by
  induction H with
  | nil => rfl
  | cons x r ih =>
    have := hr x (by simp)
    rw [cntH, if_neg (by omega), ih fun y hy => hr y (by simp [hy])]; rfl
set_option maxRecDepth 20000 in
set_option maxHeartbeats 4000000 in
theorem rheight_any (m : Nat) (vh : Value) (H : List Int) (w : World) (hH : Ints w vh H) (hHl : H.length ≤ 1000) (hm : 1 ≤ m ∧ m ≤ 16) (hr : ∀ x, x ∈ H → 0 ≤ x ∧ x < m) :
    Calls Try.prog 20 #[.int .i64 m, vh] w (Ret fun v w' => (∃ r, v = .int .i64 r ∧ IsHt H r) ∧ Ext w w') := by
  obtain ⟨qh, ch, rfl, hqh⟩ := hH.slice
  refine calls_of_wc (args := [.int .i64 m, .slice qh H.length ch]) Try.func20 rfl ?_ ?_; kernel_rfl
  repeat' (first|refine za ?_|refine zA ?_|refine zB ?_|refine zb ?_|refine zc ?_|refine ze ?_|refine zd ?_|refine zC ?_|refine zD ?_|refine zE ?_|refine zF ?_|refine zG ?_|refine zH ?_|refine zI ?_|refine zJ ?_|refine zK ?_|refine zL ?_|refine zM ?_|refine zN ?_|refine zO ?_|refine zP ?_|refine zQ ?_|refine zR ?_|refine zS ?_|refine zU ?_|refine zV ?_|refine zW ?_|refine zt (fun hcd => ?_) (fun hcd => ?_)|refine zu (fun hcd => ?_) (fun hcd => ?_)|refine zX ?_|refine zY ?_|refine zv (fun hcd => ?_) (fun hcd => ?_)|refine zk ?_|refine zl ?_|refine zm ?_|refine zn ?_|refine zf ?_|refine zg ?_|refine zj ?_|refine zZ ?_|refine zh ?_|refine zi ?_|refine zo ?_|refine zp ?_|refine zq ?_|refine zr ?_|refine zs ?_)
  refine r_make_i el23 rfl rfl (by omega) fun w2 hD2 hE2 hs2 => ?_
  obtain ⟨g, eg⟩ : ∃ b, b = w.heap.size := ⟨_, rfl⟩
  rw [← eg] at hD2 ⊢
  repeat' (first|refine za ?_|refine zA ?_|refine zB ?_|refine zb ?_|refine zc ?_|refine ze ?_|refine zd ?_|refine zC ?_|refine zD ?_|refine zE ?_|refine zF ?_|refine zG ?_|refine zH ?_|refine zI ?_|refine zJ ?_|refine zK ?_|refine zL ?_|refine zM ?_|refine zN ?_|refine zO ?_|refine zP ?_|refine zQ ?_|refine zR ?_|refine zS ?_|refine zU ?_|refine zV ?_|refine zW ?_|refine zt (fun hcd => ?_) (fun hcd => ?_)|refine zu (fun hcd => ?_) (fun hcd => ?_)|refine zX ?_|refine zY ?_|refine zv (fun hcd => ?_) (fun hcd => ?_)|refine zk ?_|refine zl ?_|refine zm ?_|refine zn ?_|refine zf ?_|refine zg ?_|refine zj ?_|refine zZ ?_|refine zh ?_|refine zi ?_|refine zo ?_|refine zp ?_|refine zq ?_|refine zr ?_|refine zs ?_)
  refine wc_loop3 [0, 1, 5] (fun (i : Nat) (_ : List Int) (r : Int) => [(6, .int .i64 r), (7, .int .i64 i)]) (fun i R r wk => i ≤ H.length ∧ OwnI wk g 3 (.slice (some ⟨g, 0, none⟩) m m) R ∧ R.length = m ∧ (∀ u : Nat, u < m → R.getD u 0 = cntH u (H.take i)) ∧ (∀ u : Nat, u < m → cntH u (H.take i) ≤ r) ∧ (∃ u : Nat, u < m ∧ cntH u (H.take i) = r) ∧ Ext w wk) (fun i _ _ => H.length - i) 0 (List.replicate m 0) 0 rfl ⟨rfl, rfl, trivial⟩
    ⟨by omega, hD2, by simp, fun u hu => by rw [List.getD_eq_getElem?_getD, List.getElem?_replicate, if_pos hu]; rfl, fun u hu => Int.le_refl _, ⟨0, by omega, rfl⟩, hE2⟩ ?_
  clear hD2 hE2 hs2
  rintro i R r wk x ⟨hi, hD, hRl, hcnt, hmax, hex, hE⟩
  by_cases hin : i < H.length
  · have hts := take_snoc hin
    have hvr := hr _ (getD_memI hin)
    have hrv := (hH.ext hE).rd hin
    have hhs := hH.isSome (by omega)
    generalize hvv : H.getD i 0 = v at *
    have hgr := (OwnI.ints hD).rd (i := v.toNat) (by omega)
    have hcv := hcnt v.toNat (by omega)
    have hcl := cntH_le (v := (v.toNat : Int)) (A := H.take i)
    have htl : (H.take i).length ≤ 1000 := by rw [List.length_take]; omega
    have hps : (some (⟨g, 0, none⟩ : Addr)).isSome = true := rfl
    repeat' (first|refine za ?_|refine zA ?_|refine zB ?_|refine zb ?_|refine zc ?_|refine ze ?_|refine zd ?_|refine zC ?_|refine zD ?_|refine zE ?_|refine zF ?_|refine zG ?_|refine zH ?_|refine zI ?_|refine zJ ?_|refine zK ?_|refine zL ?_|refine zM ?_|refine zN ?_|refine zO ?_|refine zP ?_|refine zQ ?_|refine zR ?_|refine zS ?_|refine zU ?_|refine zV ?_|refine zW ?_|refine zt (fun hcd => ?_) (fun hcd => ?_)|refine zu (fun hcd => ?_) (fun hcd => ?_)|refine zX ?_|refine zY ?_|refine zv (fun hcd => ?_) (fun hcd => ?_)|refine zk ?_|refine zl ?_|refine zm ?_|refine zn ?_|refine zf ?_|refine zg ?_|refine zj ?_|refine zZ ?_|refine zh ?_|refine zi ?_|refine zo ?_|refine zp ?_|refine zq ?_|refine zr ?_|refine zs ?_)
    refine r_st_i (i := v.toNat) (a := R.getD v.toNat 0 + 1) (by kernel_rfl) hD rfl rfl (by omega) fun w9 h9 hg9 hs9 => ?_
    have hC9 : Ch (fun k => k = g) wk w9 := Ch.grown hg9 fun k hk => (Option.some.inj hk).symm
    have hgr := (OwnI.ints h9).rd (i := v.toNat) (by rw [List.length_set]; omega)
    rw [List.getD_eq_getElem?_getD, List.getElem?_set, if_pos rfl, if_pos (by omega)] at hgr
    change rd w9 _ = some (.int .i64 (R.getD v.toNat 0 + 1)) at hgr
    repeat' (first|refine za ?_|refine zA ?_|refine zB ?_|refine zb ?_|refine zc ?_|refine ze ?_|refine zd ?_|refine zC ?_|refine zD ?_|refine zE ?_|refine zF ?_|refine zG ?_|refine zH ?_|refine zI ?_|refine zJ ?_|refine zK ?_|refine zL ?_|refine zM ?_|refine zN ?_|refine zO ?_|refine zP ?_|refine zQ ?_|refine zR ?_|refine zS ?_|refine zU ?_|refine zV ?_|refine zW ?_|refine zt (fun hcd => ?_) (fun hcd => ?_)|refine zu (fun hcd => ?_) (fun hcd => ?_)|refine zX ?_|refine zY ?_|refine zv (fun hcd => ?_) (fun hcd => ?_)|refine zk ?_|refine zl ?_|refine zm ?_|refine zn ?_|refine zf ?_|refine zg ?_|refine zj ?_|refine zZ ?_|refine zh ?_|refine zi ?_|refine zo ?_|refine zp ?_|refine zq ?_|refine zr ?_|refine zs ?_)
    refine r_max (c := max r (R.getD v.toNat 0 + 1)) rfl rfl ?_ ?_
    · rcases Int.le_total r (R.getD v.toNat 0 + 1) with c | c
      · rw [Int.max_eq_right c]; split <;> omega
      · rw [Int.max_eq_left c, if_neg (by omega)]
    repeat' (first|refine za ?_|refine zA ?_|refine zB ?_|refine zb ?_|refine zc ?_|refine ze ?_|refine zd ?_|refine zC ?_|refine zD ?_|refine zE ?_|refine zF ?_|refine zG ?_|refine zH ?_|refine zI ?_|refine zJ ?_|refine zK ?_|refine zL ?_|refine zM ?_|refine zN ?_|refine zO ?_|refine zP ?_|refine zQ ?_|refine zR ?_|refine zS ?_|refine zU ?_|refine zV ?_|refine zW ?_|refine zt (fun hcd => ?_) (fun hcd => ?_)|refine zu (fun hcd => ?_) (fun hcd => ?_)|refine zX ?_|refine zY ?_|refine zv (fun hcd => ?_) (fun hcd => ?_)|refine zk ?_|refine zl ?_|refine zm ?_|refine zn ?_|refine zf ?_|refine zg ?_|refine zj ?_|refine zZ ?_|refine zh ?_|refine zi ?_|refine zo ?_|refine zp ?_|refine zq ?_|refine zr ?_|refine zs ?_)
    have hstep : ∀ u : Nat, cntH u (H.take (i + 1)) = cntH u (H.take i) + if v = u then 1 else 0 := fun u => by rw [hts, cntH_append]; simp [cntH]
    refine ⟨i + 1, _, _, ⟨rfl, rfl, trivial⟩, ⟨by omega, h9, by rw [List.length_set]; exact hRl, fun u hu => ?_, fun u hu => ?_, ?_, Ch.trans' hE hC9 fun k hk e => by omega⟩, by omega⟩
    · rw [hstep, List.getD_eq_getElem?_getD, List.getElem?_set]
      by_cases c : v.toNat = u
      · subst c
        rw [if_pos rfl, if_pos (by omega), if_pos (by omega), ← hcv]; rfl
      · rw [if_neg c, ← List.getD_eq_getElem?_getD, hcnt u hu, if_neg (by omega)]; omega
    · rw [hstep]
      have h1 := hmax u hu
      have h2 := Int.le_max_left r (R.getD v.toNat 0 + 1)
      have h3 := Int.le_max_right r (R.getD v.toNat 0 + 1)
      by_cases c : v = u
      · subst c
        simp only [Int.toNat_natCast] at hcv h3
        simp only [if_true, Int.toNat_natCast]
        omega
      · rw [if_neg c]; omega
    · rcases Int.le_total r (R.getD v.toNat 0 + 1) with c | c
      · refine ⟨v.toNat, by omega, ?_⟩
        rw [hstep, if_pos (by omega), ← hcv, Int.max_eq_right c]
      · obtain ⟨u, hu, e⟩ := hex
        rw [Int.max_eq_left c]
        refine ⟨u, hu, ?_⟩
        rw [hstep]
        by_cases c2 : v = u
        · exfalso
          subst c2
          simp only [Int.toNat_natCast] at hcv c
          omega
        · rw [if_neg c2]; omega
  · have : i = H.length := by omega
    subst this
    rw [List.take_length] at hmax hex
    repeat' (first|refine za ?_|refine zA ?_|refine zB ?_|refine zb ?_|refine zc ?_|refine ze ?_|refine zd ?_|refine zC ?_|refine zD ?_|refine zE ?_|refine zF ?_|refine zG ?_|refine zH ?_|refine zI ?_|refine zJ ?_|refine zK ?_|refine zL ?_|refine zM ?_|refine zN ?_|refine zO ?_|refine zP ?_|refine zQ ?_|refine zR ?_|refine zS ?_|refine zU ?_|refine zV ?_|refine zW ?_|refine zt (fun hcd => ?_) (fun hcd => ?_)|refine zu (fun hcd => ?_) (fun hcd => ?_)|refine zX ?_|refine zY ?_|refine zv (fun hcd => ?_) (fun hcd => ?_)|refine zk ?_|refine zl ?_|refine zm ?_|refine zn ?_|refine zf ?_|refine zg ?_|refine zj ?_|refine zZ ?_|refine zh ?_|refine zi ?_|refine zo ?_|refine zp ?_|refine zq ?_|refine zr ?_|refine zs ?_)
    refine post1 (v := .int .i64 r) rfl rfl ?_
    refine ⟨⟨r, rfl, fun u hu => ?_, ?_⟩, hE⟩
    · by_cases c : u < m
      · exact hmax u c
      · rw [cntH_lt hr (by omega)]
        obtain ⟨u', _, e⟩ := hex
        have := cntH_le (v := (u' : Int)) (A := H)
        omega
    · obtain ⟨u, hu, e⟩ := hex
      exact ⟨u, by omega, e⟩
end Go.Proofs.Ytibegggcinonkaa
