/- bags: the reference's neighbors, Peel, Cores. -/
import Derived.Test.YtibegggcinonkaaCP
import Derived.Test.YtibegggcinonkaaPR
namespace Go.Proofs.Ytibegggcinonkaa
open Gv
theorem el80 : elemI Try.prog 80 = some (4, .bool false, 1, 1) := by kernel_rfl
set_option maxRecDepth 20000 in
set_option maxHeartbeats 4000000 in
theorem neighbors_any (ve vl : Value) (L : List (Int × Int)) (R : List Bool) (v : Int) (w : World) (h : Pairs2 w ve L) (hR : Bls w vl R) (hl : L.length ≤ 1000)
    (hG : ∀ k, k < L.length → 0 ≤ (ed L k).1 ∧ (ed L k).1 < (ed L k).2 ∧ (ed L k).2 < R.length) :
    Calls Try.prog 44 #[ve, vl, .int .i64 v] w (Ret fun u w' => u = .int .i64 (nbP L (bset R) v) ∧ w' = w) := by
  obtain ⟨qe, ce, rfl, hqe⟩ := h.slice
  obtain ⟨ql, cl, rfl, hql⟩ := hR.slice
  refine calls_of_wc (args := [.slice qe L.length ce, .slice ql R.length cl, .int .i64 v]) Try.func44 rfl ?_ ?_; kernel_rfl
  repeat' (first|refine za ?_|refine zA ?_|refine zB ?_|refine zb ?_|refine zc ?_|refine ze ?_|refine zd ?_|refine zC ?_|refine zD ?_|refine zE ?_|refine zF ?_|refine zG ?_|refine zH ?_|refine zI ?_|refine zJ ?_|refine zK ?_|refine zL ?_|refine zM ?_|refine zN ?_|refine zO ?_|refine zP ?_|refine zQ ?_|refine zR ?_|refine zS ?_|refine zU ?_|refine zV ?_|refine zW ?_|refine zt (fun hcd => ?_) (fun hcd => ?_)|refine zu (fun hcd => ?_) (fun hcd => ?_)|refine zX ?_|refine zY ?_|refine zv (fun hcd => ?_) (fun hcd => ?_)|refine zk ?_|refine zl ?_|refine zm ?_|refine zn ?_|refine zf ?_|refine zg ?_|refine zj ?_|refine zZ ?_|refine zh ?_|refine zi ?_|refine zo ?_|refine zp ?_|refine zq ?_|refine zr ?_|refine zs ?_)
  refine wc_loop2 [0, 1, 2] (fun (i : Nat) (c : Int) => [(7, .int .i64 c), (8, .int .i64 i)]) (fun i c wk => i ≤ L.length ∧ (0 ≤ c ∧ c ≤ i) ∧ c = sumTo (fun k => if ((ed L k).1 = v ∧ bset R (ed L k).2 = true) ∨ ((ed L k).2 = v ∧ bset R (ed L k).1 = true) then 1 else 0) i ∧ wk = w) (fun i _ => L.length - i) 0 0 rfl ⟨rfl, rfl, trivial⟩ ⟨by omega, by omega, rfl, rfl⟩ ?_
  rintro i c wk x ⟨hi, hcb, hc, rfl⟩
  by_cases hin : i < L.length
  · have hGi := hG i hin
    obtain ⟨e0, e1⟩ := h.rd hin
    have hes := h.isSome (by omega)
    have hls := hR.isSome (by omega)
    change rd _ _ = some (.int .i64 (ed L i).1) at e0
    change rd _ _ = some (.int .i64 (ed L i).2) at e1
    have rA := hR.rd (i := (ed L i).1.toNat) (by omega)
    have rB := hR.rd (i := (ed L i).2.toNat) (by omega)
    have hbA : bset R (ed L i).1 = R.getD (ed L i).1.toNat false := by unfold bset; rw [decide_eq_true hGi.1, Bool.true_and]
    have hbB : bset R (ed L i).2 = R.getD (ed L i).2.toNat false := by unfold bset; rw [decide_eq_true (show 0 ≤ (ed L i).2 by omega), Bool.true_and]
    have hyes : (((ed L i).1 = v ∧ R.getD (ed L i).2.toNat false = true) ∨ ((ed L i).2 = v ∧ R.getD (ed L i).1.toNat false = true)) → c + 1 = sumTo (fun k => if ((ed L k).1 = v ∧ bset R (ed L k).2 = true) ∨ ((ed L k).2 = v ∧ bset R (ed L k).1 = true) then 1 else 0) (i + 1) := fun e => by
      rw [sumTo, ← hc, hbA, hbB, if_pos e]
    have hno : ¬ (((ed L i).1 = v ∧ R.getD (ed L i).2.toNat false = true) ∨ ((ed L i).2 = v ∧ R.getD (ed L i).1.toNat false = true)) → c = sumTo (fun k => if ((ed L k).1 = v ∧ bset R (ed L k).2 = true) ∨ ((ed L k).2 = v ∧ bset R (ed L k).1 = true) then 1 else 0) (i + 1) := fun e => by
      rw [sumTo, ← hc, hbA, hbB, if_neg e]; omega
    clear hc hbA hbB
    generalize (ed L i).1 = a at *
    generalize (ed L i).2 = b at *
    generalize R.getD a.toNat false = ra at *
    generalize R.getD b.toNat false = rb at *
    by_cases c1 : a = v
    · have c2 : ¬ b = v := by omega
      cases rb with
      | true =>
        repeat' (first|refine za ?_|refine zA ?_|refine zB ?_|refine zb ?_|refine zc ?_|refine ze ?_|refine zd ?_|refine zC ?_|refine zD ?_|refine zE ?_|refine zF ?_|refine zG ?_|refine zH ?_|refine zI ?_|refine zJ ?_|refine zK ?_|refine zL ?_|refine zM ?_|refine zN ?_|refine zO ?_|refine zP ?_|refine zQ ?_|refine zR ?_|refine zS ?_|refine zU ?_|refine zV ?_|refine zW ?_|refine zt (fun hcd => ?_) (fun hcd => ?_)|refine zu (fun hcd => ?_) (fun hcd => ?_)|refine zX ?_|refine zY ?_|refine zv (fun hcd => ?_) (fun hcd => ?_)|refine zk ?_|refine zl ?_|refine zm ?_|refine zn ?_|refine zf ?_|refine zg ?_|refine zj ?_|refine zZ ?_|refine zh ?_|refine zi ?_|refine zo ?_|refine zp ?_|refine zq ?_|refine zr ?_|refine zs ?_|refine r_faQ fo46_0 rfl (pidx_isSome (by assumption)) ?_|refine r_faQ fo46_1 rfl (pidx_isSome (by assumption)) ?_)
        exact ⟨i + 1, c + 1, ⟨rfl, rfl, trivial⟩, ⟨by omega, by omega, hyes (.inl ⟨c1, rfl⟩), rfl⟩, by omega⟩
      | false =>
        repeat' (first|refine za ?_|refine zA ?_|refine zB ?_|refine zb ?_|refine zc ?_|refine ze ?_|refine zd ?_|refine zC ?_|refine zD ?_|refine zE ?_|refine zF ?_|refine zG ?_|refine zH ?_|refine zI ?_|refine zJ ?_|refine zK ?_|refine zL ?_|refine zM ?_|refine zN ?_|refine zO ?_|refine zP ?_|refine zQ ?_|refine zR ?_|refine zS ?_|refine zU ?_|refine zV ?_|refine zW ?_|refine zt (fun hcd => ?_) (fun hcd => ?_)|refine zu (fun hcd => ?_) (fun hcd => ?_)|refine zX ?_|refine zY ?_|refine zv (fun hcd => ?_) (fun hcd => ?_)|refine zk ?_|refine zl ?_|refine zm ?_|refine zn ?_|refine zf ?_|refine zg ?_|refine zj ?_|refine zZ ?_|refine zh ?_|refine zi ?_|refine zo ?_|refine zp ?_|refine zq ?_|refine zr ?_|refine zs ?_|refine r_faQ fo46_0 rfl (pidx_isSome (by assumption)) ?_|refine r_faQ fo46_1 rfl (pidx_isSome (by assumption)) ?_)
        exact ⟨i + 1, c, ⟨rfl, rfl, trivial⟩, ⟨by omega, by omega, hno (fun h => h.elim (fun h => by cases h.2) fun h => c2 h.1), rfl⟩, by omega⟩
    · by_cases c2 : b = v
      · cases ra with
        | true =>
          repeat' (first|refine za ?_|refine zA ?_|refine zB ?_|refine zb ?_|refine zc ?_|refine ze ?_|refine zd ?_|refine zC ?_|refine zD ?_|refine zE ?_|refine zF ?_|refine zG ?_|refine zH ?_|refine zI ?_|refine zJ ?_|refine zK ?_|refine zL ?_|refine zM ?_|refine zN ?_|refine zO ?_|refine zP ?_|refine zQ ?_|refine zR ?_|refine zS ?_|refine zU ?_|refine zV ?_|refine zW ?_|refine zt (fun hcd => ?_) (fun hcd => ?_)|refine zu (fun hcd => ?_) (fun hcd => ?_)|refine zX ?_|refine zY ?_|refine zv (fun hcd => ?_) (fun hcd => ?_)|refine zk ?_|refine zl ?_|refine zm ?_|refine zn ?_|refine zf ?_|refine zg ?_|refine zj ?_|refine zZ ?_|refine zh ?_|refine zi ?_|refine zo ?_|refine zp ?_|refine zq ?_|refine zr ?_|refine zs ?_|refine r_faQ fo46_0 rfl (pidx_isSome (by assumption)) ?_|refine r_faQ fo46_1 rfl (pidx_isSome (by assumption)) ?_)
          exact ⟨i + 1, c + 1, ⟨rfl, rfl, trivial⟩, ⟨by omega, by omega, hyes (.inr ⟨c2, rfl⟩), rfl⟩, by omega⟩
        | false =>
          repeat' (first|refine za ?_|refine zA ?_|refine zB ?_|refine zb ?_|refine zc ?_|refine ze ?_|refine zd ?_|refine zC ?_|refine zD ?_|refine zE ?_|refine zF ?_|refine zG ?_|refine zH ?_|refine zI ?_|refine zJ ?_|refine zK ?_|refine zL ?_|refine zM ?_|refine zN ?_|refine zO ?_|refine zP ?_|refine zQ ?_|refine zR ?_|refine zS ?_|refine zU ?_|refine zV ?_|refine zW ?_|refine zt (fun hcd => ?_) (fun hcd => ?_)|refine zu (fun hcd => ?_) (fun hcd => ?_)|refine zX ?_|refine zY ?_|refine zv (fun hcd => ?_) (fun hcd => ?_)|refine zk ?_|refine zl ?_|refine zm ?_|refine zn ?_|refine zf ?_|refine zg ?_|refine zj ?_|refine zZ ?_|refine zh ?_|refine zi ?_|refine zo ?_|refine zp ?_|refine zq ?_|refine zr ?_|refine zs ?_|refine r_faQ fo46_0 rfl (pidx_isSome (by assumption)) ?_|refine r_faQ fo46_1 rfl (pidx_isSome (by assumption)) ?_)
          exact ⟨i + 1, c, ⟨rfl, rfl, trivial⟩, ⟨by omega, by omega, hno (fun h => h.elim (fun h => c1 h.1) fun h => by cases h.2), rfl⟩, by omega⟩
      · repeat' (first|refine za ?_|refine zA ?_|refine zB ?_|refine zb ?_|refine zc ?_|refine ze ?_|refine zd ?_|refine zC ?_|refine zD ?_|refine zE ?_|refine zF ?_|refine zG ?_|refine zH ?_|refine zI ?_|refine zJ ?_|refine zK ?_|refine zL ?_|refine zM ?_|refine zN ?_|refine zO ?_|refine zP ?_|refine zQ ?_|refine zR ?_|refine zS ?_|refine zU ?_|refine zV ?_|refine zW ?_|refine zt (fun hcd => ?_) (fun hcd => ?_)|refine zu (fun hcd => ?_) (fun hcd => ?_)|refine zX ?_|refine zY ?_|refine zv (fun hcd => ?_) (fun hcd => ?_)|refine zk ?_|refine zl ?_|refine zm ?_|refine zn ?_|refine zf ?_|refine zg ?_|refine zj ?_|refine zZ ?_|refine zh ?_|refine zi ?_|refine zo ?_|refine zp ?_|refine zq ?_|refine zr ?_|refine zs ?_|refine r_faQ fo46_0 rfl (pidx_isSome (by assumption)) ?_|refine r_faQ fo46_1 rfl (pidx_isSome (by assumption)) ?_)
        exact ⟨i + 1, c, ⟨rfl, rfl, trivial⟩, ⟨by omega, by omega, hno (fun h => h.elim (fun h => c1 h.1) fun h => c2 h.1), rfl⟩, by omega⟩
  · have : i = L.length := by omega
    subst this
    repeat' (first|refine za ?_|refine zA ?_|refine zB ?_|refine zb ?_|refine zc ?_|refine ze ?_|refine zd ?_|refine zC ?_|refine zD ?_|refine zE ?_|refine zF ?_|refine zG ?_|refine zH ?_|refine zI ?_|refine zJ ?_|refine zK ?_|refine zL ?_|refine zM ?_|refine zN ?_|refine zO ?_|refine zP ?_|refine zQ ?_|refine zR ?_|refine zS ?_|refine zU ?_|refine zV ?_|refine zW ?_|refine zt (fun hcd => ?_) (fun hcd => ?_)|refine zu (fun hcd => ?_) (fun hcd => ?_)|refine zX ?_|refine zY ?_|refine zv (fun hcd => ?_) (fun hcd => ?_)|refine zk ?_|refine zl ?_|refine zm ?_|refine zn ?_|refine zf ?_|refine zg ?_|refine zj ?_|refine zZ ?_|refine zh ?_|refine zi ?_|refine zo ?_|refine zp ?_|refine zq ?_|refine zr ?_|refine zs ?_)
    refine post1 (v := .int .i64 c) rfl rfl ?_
    exact ⟨congrArg (Value.int .i64) hc, rfl⟩
/-- The vertices that are not in O. -/
theorem bset_out {R : List Bool} {O : List Int} {m : Nat} (_hR : R.length = m) (h : ∀ u : Nat, u < m → (R.getD u false = true ↔ (u : Int) ∉ O)) {L : List (Int × Int)} (hG : ∀ k, k < L.length → 0 ≤ (ed L k).1 ∧ (ed L k).1 < (ed L k).2 ∧ (ed L k).2 < m) {v : Int} : nbP L (bset R) v = nbP L (out O) v := by
  have key : ∀ u : Int, 0 ≤ u → u < m → (bset R u = true ↔ out O u = true) := fun u h0 h1 => by
    have := h u.toNat (by omega)
    rw [Int.toNat_of_nonneg h0] at this
    unfold bset
    rw [decide_eq_true h0, Bool.true_and, this]
    simp [out]
  refine Int.le_antisymm (nbP_on fun k hk => ?_) (nbP_on fun k hk => ?_)
  · have := hG k hk
    exact ⟨(key _ (by omega) (by omega)).1, (key _ (by omega) (by omega)).1⟩
  · have := hG k hk
    exact ⟨(key _ (by omega) (by omega)).2, (key _ (by omega) (by omega)).2⟩
theorem set_getB {R : List Bool} {i j : Nat} {a : Bool} (hi : i < R.length) : (R.set i a).getD j false = if j = i then a else R.getD j false := by
  rw [List.getD_eq_getElem?_getD, List.getElem?_set]
  by_cases c : i = j
  · subst c; rw [if_pos rfl, if_pos hi, if_pos rfl]; rfl
  · rw [if_neg c, if_neg (Ne.symm c), List.getD_eq_getElem?_getD]
end Go.Proofs.Ytibegggcinonkaa
