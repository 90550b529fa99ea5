/- bags: the reference's Densest: it goes through all sets of vertices. -/
import Derived.Test.YtibegggcinonkaaR1
import Derived.Test.YtibegggcinonkaaPDn
import Derived.Test.YtibegggcinonkaaDelS
namespace Go.Proofs.Ytibegggcinonkaa
open Gv
section
variable {P : Program} {st : Bool} {K : Env → World → Prop} {ρ : Env} {w : World} {d : Nat} {ty t t2 : TypeId} {pos : String} {aft : Array Edge} {gd : Option (Nat × Bool)} {x y : Operand}
theorem r_shlN {m n r : Nat} (hx : ev ρ x = .int .i64 (m : Int)) (hy : ev ρ y = .int .i64 (n : Int)) (hn : n < 63) (hr : m * 2 ^ n = r) (hb : r < 9223372036854775808) (h : K (up ρ d (.int .i64 (r : Int))) w) :
    w1 P st ⟨some d, .binOp .shl t x y t2, ty, pos, aft, gd⟩ K ρ w := by
  have e : m <<< n = r := by rw [Nat.shiftLeft_eq]; exact hr
  refine r_shl hx hy (by omega) (by rw [e]; exact hb) ?_
  rw [e]; exact h
theorem r_shrN {m n r : Nat} (hx : ev ρ x = .int .i64 (m : Int)) (hy : ev ρ y = .int .i64 (n : Int)) (hn : n < 63) (hr : m / 2 ^ n = r) (h : K (up ρ d (.int .i64 (r : Int))) w) :
    w1 P st ⟨some d, .binOp .shr t x y t2, ty, pos, aft, gd⟩ K ρ w := by
  refine r_shr hx hy (by omega) ?_
  rw [Nat.shiftRight_eq_div_pow, hr]; exact h
theorem r_andN {m n r : Nat} (hx : ev ρ x = .int .i64 (m : Int)) (hy : ev ρ y = .int .i64 (n : Int)) (hm : m < 1000000) (hn : n < 1000000) (hr : m &&& n = r) (h : K (up ρ d (.int .i64 (r : Int))) w) :
    w1 P st ⟨some d, .binOp .and t x y t2, ty, pos, aft, gd⟩ K ρ w := r_and hx hy (by omega) (by omega) (by rw [hr]; exact h)
theorem r_orN {m n r : Nat} (hx : ev ρ x = .int .i64 (m : Int)) (hy : ev ρ y = .int .i64 (n : Int)) (hm : m < 1000000) (hn : n < 1000000) (hr : m ||| n = r) (h : K (up ρ d (.int .i64 (r : Int))) w) :
    w1 P st ⟨some d, .binOp .or t x y t2, ty, pos, aft, gd⟩ K ρ w := r_or hx hy (by omega) (by omega) (by rw [hr]; exact h)
end
theorem setI {A : List Int} {i j : Nat} {a : Int} (hi : i < A.length) : (A.set i a).getD j 0 = if j = i then a else A.getD j 0 := by
  rw [List.getD_eq_getElem?_getD, List.getElem?_set]
  by_cases c : i = j
  · subst c; rw [if_pos rfl, if_pos hi, if_pos rfl]; rfl
  · rw [if_neg c, if_neg (Ne.symm c), List.getD_eq_getElem?_getD]
theorem testBit_div (u v : Nat) : u.testBit v = true ↔ u / 2 ^ v % 2 = 1 := by
  rw [Nat.testBit_eq_decide_div_mod_eq, decide_eq_true_eq]
theorem two_pow_le16 {n : Nat} (h : n ≤ 16) : 2 ^ n ≤ 65536 := Nat.pow_le_pow_right (n := 2) (by decide) h
set_option maxRecDepth 20000 in
set_option maxHeartbeats 8000000 in
theorem rdensest_any (n : Nat) (ve : Value) (L : List (Int × Int)) (w : World) (h : Pairs2 w ve L) (hl : L.length ≤ 1000) (hG : GoodE n L) (hn : 1 ≤ n ∧ n ≤ 16) :
    Calls Try.prog 36 #[.int .i64 n, ve] w (Ret fun v w' => (∃ all best size, Bst (insI L) (onesI n) (2 ^ n) best size all ∧ OwnI w' w.heap.size 3 v (blL all n)) ∧ Ext w w') := by
  obtain ⟨qe, ce, rfl, hqe⟩ := h.slice
  obtain ⟨N, hN⟩ : ∃ N, 2 ^ n = N := ⟨_, rfl⟩
  have hN16 : N ≤ 65536 := by rw [← hN]; exact two_pow_le16 hn.2
  have hN2 : 2 ≤ N := by rw [← hN]; exact Nat.pow_le_pow_right (n := 2) (by decide) hn.1
  obtain ⟨base, ebase⟩ : ∃ b, b = w.heap.size := ⟨_, rfl⟩
  rw [← ebase]
  refine calls_of_wc (args := [.int .i64 n, .slice qe L.length ce]) Try.func36 rfl ?_ ?_; kernel_rfl
  repeat' (first|refine za ?_|refine zA ?_|refine zB ?_|refine zb ?_|refine zc ?_|refine ze ?_|refine zd ?_|refine zC ?_|refine zD ?_|refine zE ?_|refine zF ?_|refine zG ?_|refine zH ?_|refine zI ?_|refine zJ ?_|refine zK ?_|refine zL ?_|refine zM ?_|refine zN ?_|refine zO ?_|refine zP ?_|refine zQ ?_|refine zR ?_|refine zS ?_|refine zU ?_|refine zV ?_|refine zW ?_|refine zt (fun hcd => ?_) (fun hcd => ?_)|refine zu (fun hcd => ?_) (fun hcd => ?_)|refine zX ?_|refine zY ?_|refine zv (fun hcd => ?_) (fun hcd => ?_)|refine zk ?_|refine zl ?_|refine zm ?_|refine zn ?_|refine zf ?_|refine zg ?_|refine zj ?_|refine zZ ?_|refine zh ?_|refine zi ?_|refine zo ?_|refine zp ?_|refine zq ?_|refine zr ?_|refine zs ?_)
  refine r_shlN (m := 1) (n := n) (r := N) rfl rfl (by omega) (by omega) (by omega) ?_
  repeat' (first|refine za ?_|refine zA ?_|refine zB ?_|refine zb ?_|refine zc ?_|refine ze ?_|refine zd ?_|refine zC ?_|refine zD ?_|refine zE ?_|refine zF ?_|refine zG ?_|refine zH ?_|refine zI ?_|refine zJ ?_|refine zK ?_|refine zL ?_|refine zM ?_|refine zN ?_|refine zO ?_|refine zP ?_|refine zQ ?_|refine zR ?_|refine zS ?_|refine zU ?_|refine zV ?_|refine zW ?_|refine zt (fun hcd => ?_) (fun hcd => ?_)|refine zu (fun hcd => ?_) (fun hcd => ?_)|refine zX ?_|refine zY ?_|refine zv (fun hcd => ?_) (fun hcd => ?_)|refine zk ?_|refine zl ?_|refine zm ?_|refine zn ?_|refine zf ?_|refine zg ?_|refine zj ?_|refine zZ ?_|refine zh ?_|refine zi ?_|refine zo ?_|refine zp ?_|refine zq ?_|refine zr ?_|refine zs ?_)
  refine r_make_i (n := n) el23 rfl rfl (by omega) fun w1 h1 hE1 hs1 => ?_
  rw [← ebase] at h1 ⊢
  have hps : (some (⟨base, 0, none⟩ : Addr)).isSome = true := rfl
  repeat' (first|refine za ?_|refine zA ?_|refine zB ?_|refine zb ?_|refine zc ?_|refine ze ?_|refine zd ?_|refine zC ?_|refine zD ?_|refine zE ?_|refine zF ?_|refine zG ?_|refine zH ?_|refine zI ?_|refine zJ ?_|refine zK ?_|refine zL ?_|refine zM ?_|refine zN ?_|refine zO ?_|refine zP ?_|refine zQ ?_|refine zR ?_|refine zS ?_|refine zU ?_|refine zV ?_|refine zW ?_|refine zt (fun hcd => ?_) (fun hcd => ?_)|refine zu (fun hcd => ?_) (fun hcd => ?_)|refine zX ?_|refine zY ?_|refine zv (fun hcd => ?_) (fun hcd => ?_)|refine zk ?_|refine zl ?_|refine zm ?_|refine zn ?_|refine zf ?_|refine zg ?_|refine zj ?_|refine zZ ?_|refine zh ?_|refine zi ?_|refine zo ?_|refine zp ?_|refine zq ?_|refine zr ?_|refine zs ?_)
  refine wc_loop2 [0, 1, 5, 6] (fun (i : Nat) (_ : List Int) => [(7, .int .i64 i)]) (fun i A wk => i ≤ L.length ∧ OwnI wk base 3 (.slice (some ⟨base, 0, none⟩) n n) A ∧ A.length = n ∧ (∀ v : Nat, v < n → A.getD v 0 = nearN L v i) ∧ Ext w wk) (fun i _ => L.length - i) 0 _ rfl ⟨rfl, trivial⟩
    ⟨by omega, h1, by simp, fun v hv => by rw [List.getD_eq_getElem?_getD, List.getElem?_replicate, if_pos hv]; rfl, hE1⟩ ?_
  clear h1 hE1 hs1
  rintro i A wk x ⟨hi, hA, hAl, hAv, hE⟩
  by_cases hin : i < L.length
  · obtain ⟨⟨g0, g1, g2⟩, _⟩ := hG i hin
    have hEd := hE.trans (Ext.drew wk)
    obtain ⟨e0, e1⟩ := (h.ext hEd).rd hin
    have hes := h.isSome (by omega)
    change rd _ _ = some (.int .i64 (ed L i).1) at e0
    change rd _ _ = some (.int .i64 (ed L i).2) at e1
    have hst : ∀ v, nearN L v (i + 1) = nearN L v i + (if (ed L i).1 = v then 2 ^ (ed L i).2.toNat else 0) + (if (ed L i).2 = v then 2 ^ (ed L i).1.toNat else 0) := fun v => rfl
    obtain ⟨a, ha⟩ : ∃ a : Nat, (ed L i).1 = a := ⟨(ed L i).1.toNat, by omega⟩
    obtain ⟨b, hb⟩ : ∃ b : Nat, (ed L i).2 = b := ⟨(ed L i).2.toNat, by omega⟩
    rw [ha] at g0 g1 e0
    rw [hb] at g1 g2 e1
    simp only [ha, hb, Int.toNat_natCast, Int.natCast_inj] at hst
    clear ha hb
    have xa := nearN_lt hG (v := a) (i := i) (by omega)
    have xb := nearN_lt hG (v := b) (i := i) (by omega)
    rw [hN] at xa xb
    have va := hAv a (by omega)
    have vb := hAv b (by omega)
    have hab : a ≠ b := by omega
    obtain ⟨pa, hpa⟩ : ∃ p, 2 ^ a = p := ⟨_, rfl⟩
    obtain ⟨pb, hpb⟩ : ∃ p, 2 ^ b = p := ⟨_, rfl⟩
    have hpa' : pa ≤ 65536 := by rw [← hpa]; exact two_pow_le16 (by omega)
    have hpb' : pb ≤ 65536 := by rw [← hpb]; exact two_pow_le16 (by omega)
    rw [hpa, hpb] at hst
    have hAd := ownsRow_ext hA (Ext.drew wk)
    have hE2 := hEd.trans (Ext.drew wk.drew)
    have hA2 := ownsRow_ext hAd (Ext.drew wk.drew)
    have ra := (OwnI.ints hA2).rd (i := a) (by omega)
    rw [va] at ra
    generalize nearN L a i = na at *
    generalize nearN L b i = nb' at *
    repeat' (first|refine za ?_|refine zA ?_|refine zB ?_|refine zb ?_|refine zc ?_|refine ze ?_|refine zd ?_|refine zC ?_|refine zD ?_|refine zE ?_|refine zF ?_|refine zG ?_|refine zH ?_|refine zI ?_|refine zJ ?_|refine zK ?_|refine zL ?_|refine zM ?_|refine zN ?_|refine zO ?_|refine zP ?_|refine zQ ?_|refine zR ?_|refine zS ?_|refine zU ?_|refine zV ?_|refine zW ?_|refine zt (fun hcd => ?_) (fun hcd => ?_)|refine zu (fun hcd => ?_) (fun hcd => ?_)|refine zX ?_|refine zY ?_|refine zv (fun hcd => ?_) (fun hcd => ?_)|refine zk ?_|refine zl ?_|refine zm ?_|refine zn ?_|refine zf ?_|refine zg ?_|refine zj ?_|refine zZ ?_|refine zh ?_|refine zi ?_|refine zo ?_|refine zp ?_|refine zq ?_|refine zr ?_|refine zs ?_|refine r_faQ fo46_0 rfl (pidx_isSome (by assumption)) ?_|refine r_faQ fo46_1 rfl (pidx_isSome (by assumption)) ?_)
    (refine wc_drawn 11 (by kernel_rfl) (by kernel_rfl) ?_; simp only [List.take_succ_cons, List.take_zero, List.drop_succ_cons, List.drop_zero])
    repeat' (first|refine za ?_|refine zA ?_|refine zB ?_|refine zb ?_|refine zc ?_|refine ze ?_|refine zd ?_|refine zC ?_|refine zD ?_|refine zE ?_|refine zF ?_|refine zG ?_|refine zH ?_|refine zI ?_|refine zJ ?_|refine zK ?_|refine zL ?_|refine zM ?_|refine zN ?_|refine zO ?_|refine zP ?_|refine zQ ?_|refine zR ?_|refine zS ?_|refine zU ?_|refine zV ?_|refine zW ?_|refine zt (fun hcd => ?_) (fun hcd => ?_)|refine zu (fun hcd => ?_) (fun hcd => ?_)|refine zX ?_|refine zY ?_|refine zv (fun hcd => ?_) (fun hcd => ?_)|refine zk ?_|refine zl ?_|refine zm ?_|refine zn ?_|refine zf ?_|refine zg ?_|refine zj ?_|refine zZ ?_|refine zh ?_|refine zi ?_|refine zo ?_|refine zp ?_|refine zq ?_|refine zr ?_|refine zs ?_|refine r_faQ fo46_0 rfl (pidx_isSome (by assumption)) ?_|refine r_faQ fo46_1 rfl (pidx_isSome (by assumption)) ?_)
    (refine wc_drawn 10 (by kernel_rfl) (by kernel_rfl) ?_; simp only [List.take_succ_cons, List.take_zero, List.drop_succ_cons, List.drop_zero])
    repeat' (first|refine za ?_|refine zA ?_|refine zB ?_|refine zb ?_|refine zc ?_|refine ze ?_|refine zd ?_|refine zC ?_|refine zD ?_|refine zE ?_|refine zF ?_|refine zG ?_|refine zH ?_|refine zI ?_|refine zJ ?_|refine zK ?_|refine zL ?_|refine zM ?_|refine zN ?_|refine zO ?_|refine zP ?_|refine zQ ?_|refine zR ?_|refine zS ?_|refine zU ?_|refine zV ?_|refine zW ?_|refine zt (fun hcd => ?_) (fun hcd => ?_)|refine zu (fun hcd => ?_) (fun hcd => ?_)|refine zX ?_|refine zY ?_|refine zv (fun hcd => ?_) (fun hcd => ?_)|refine zk ?_|refine zl ?_|refine zm ?_|refine zn ?_|refine zf ?_|refine zg ?_|refine zj ?_|refine zZ ?_|refine zh ?_|refine zi ?_|refine zo ?_|refine zp ?_|refine zq ?_|refine zr ?_|refine zs ?_)
    refine r_shlN (m := 1) (n := b) (r := pb) rfl rfl (by omega) (by omega) (by omega) ?_
    repeat' (first|refine za ?_|refine zA ?_|refine zB ?_|refine zb ?_|refine zc ?_|refine ze ?_|refine zd ?_|refine zC ?_|refine zD ?_|refine zE ?_|refine zF ?_|refine zG ?_|refine zH ?_|refine zI ?_|refine zJ ?_|refine zK ?_|refine zL ?_|refine zM ?_|refine zN ?_|refine zO ?_|refine zP ?_|refine zQ ?_|refine zR ?_|refine zS ?_|refine zU ?_|refine zV ?_|refine zW ?_|refine zt (fun hcd => ?_) (fun hcd => ?_)|refine zu (fun hcd => ?_) (fun hcd => ?_)|refine zX ?_|refine zY ?_|refine zv (fun hcd => ?_) (fun hcd => ?_)|refine zk ?_|refine zl ?_|refine zm ?_|refine zn ?_|refine zf ?_|refine zg ?_|refine zj ?_|refine zZ ?_|refine zh ?_|refine zi ?_|refine zo ?_|refine zp ?_|refine zq ?_|refine zr ?_|refine zs ?_)
    refine r_st_i (i := a) (e := 3) (base := base) rfl hA2 rfl rfl (by omega) fun w3 h3 hg3 hs3 => ?_
    have hC3 : Ch (fun k => k = base) wk.drew.drew w3 := Ch.grown hg3 fun k hk => (Option.some.inj hk).symm
    have hA3 := ownsRow_ext h3 (Ext.drew w3)
    have rb := (OwnI.ints hA3).rd (i := b) (by rw [List.length_set]; omega)
    rw [setI (by omega), if_neg (Ne.symm hab), vb] at rb
    repeat' (first|refine za ?_|refine zA ?_|refine zB ?_|refine zb ?_|refine zc ?_|refine ze ?_|refine zd ?_|refine zC ?_|refine zD ?_|refine zE ?_|refine zF ?_|refine zG ?_|refine zH ?_|refine zI ?_|refine zJ ?_|refine zK ?_|refine zL ?_|refine zM ?_|refine zN ?_|refine zO ?_|refine zP ?_|refine zQ ?_|refine zR ?_|refine zS ?_|refine zU ?_|refine zV ?_|refine zW ?_|refine zt (fun hcd => ?_) (fun hcd => ?_)|refine zu (fun hcd => ?_) (fun hcd => ?_)|refine zX ?_|refine zY ?_|refine zv (fun hcd => ?_) (fun hcd => ?_)|refine zk ?_|refine zl ?_|refine zm ?_|refine zn ?_|refine zf ?_|refine zg ?_|refine zj ?_|refine zZ ?_|refine zh ?_|refine zi ?_|refine zo ?_|refine zp ?_|refine zq ?_|refine zr ?_|refine zs ?_)
    (refine wc_drawn 10 (by kernel_rfl) (by kernel_rfl) ?_; simp only [List.take_succ_cons, List.take_zero, List.drop_succ_cons, List.drop_zero])
    repeat' (first|refine za ?_|refine zA ?_|refine zB ?_|refine zb ?_|refine zc ?_|refine ze ?_|refine zd ?_|refine zC ?_|refine zD ?_|refine zE ?_|refine zF ?_|refine zG ?_|refine zH ?_|refine zI ?_|refine zJ ?_|refine zK ?_|refine zL ?_|refine zM ?_|refine zN ?_|refine zO ?_|refine zP ?_|refine zQ ?_|refine zR ?_|refine zS ?_|refine zU ?_|refine zV ?_|refine zW ?_|refine zt (fun hcd => ?_) (fun hcd => ?_)|refine zu (fun hcd => ?_) (fun hcd => ?_)|refine zX ?_|refine zY ?_|refine zv (fun hcd => ?_) (fun hcd => ?_)|refine zk ?_|refine zl ?_|refine zm ?_|refine zn ?_|refine zf ?_|refine zg ?_|refine zj ?_|refine zZ ?_|refine zh ?_|refine zi ?_|refine zo ?_|refine zp ?_|refine zq ?_|refine zr ?_|refine zs ?_)
    refine r_shlN (m := 1) (n := a) (r := pa) rfl rfl (by omega) (by omega) (by omega) ?_
    repeat' (first|refine za ?_|refine zA ?_|refine zB ?_|refine zb ?_|refine zc ?_|refine ze ?_|refine zd ?_|refine zC ?_|refine zD ?_|refine zE ?_|refine zF ?_|refine zG ?_|refine zH ?_|refine zI ?_|refine zJ ?_|refine zK ?_|refine zL ?_|refine zM ?_|refine zN ?_|refine zO ?_|refine zP ?_|refine zQ ?_|refine zR ?_|refine zS ?_|refine zU ?_|refine zV ?_|refine zW ?_|refine zt (fun hcd => ?_) (fun hcd => ?_)|refine zu (fun hcd => ?_) (fun hcd => ?_)|refine zX ?_|refine zY ?_|refine zv (fun hcd => ?_) (fun hcd => ?_)|refine zk ?_|refine zl ?_|refine zm ?_|refine zn ?_|refine zf ?_|refine zg ?_|refine zj ?_|refine zZ ?_|refine zh ?_|refine zi ?_|refine zo ?_|refine zp ?_|refine zq ?_|refine zr ?_|refine zs ?_)
    refine r_st_i (i := b) (e := 3) (base := base) rfl hA3 rfl rfl (by rw [List.length_set]; omega) fun w4 h4 hg4 hs4 => ?_
    have hC4 : Ch (fun k => k = base) w3.drew w4 := Ch.grown hg4 fun k hk => (Option.some.inj hk).symm
    have hE4 : Ext w w4 := Ch.trans' (Ch.trans' hE2 hC3 fun k hk e => by omega) (((Ext.drew w3).ch).trans hC4) fun k hk e => by omega
    repeat' (first|refine za ?_|refine zA ?_|refine zB ?_|refine zb ?_|refine zc ?_|refine ze ?_|refine zd ?_|refine zC ?_|refine zD ?_|refine zE ?_|refine zF ?_|refine zG ?_|refine zH ?_|refine zI ?_|refine zJ ?_|refine zK ?_|refine zL ?_|refine zM ?_|refine zN ?_|refine zO ?_|refine zP ?_|refine zQ ?_|refine zR ?_|refine zS ?_|refine zU ?_|refine zV ?_|refine zW ?_|refine zt (fun hcd => ?_) (fun hcd => ?_)|refine zu (fun hcd => ?_) (fun hcd => ?_)|refine zX ?_|refine zY ?_|refine zv (fun hcd => ?_) (fun hcd => ?_)|refine zk ?_|refine zl ?_|refine zm ?_|refine zn ?_|refine zf ?_|refine zg ?_|refine zj ?_|refine zZ ?_|refine zh ?_|refine zi ?_|refine zo ?_|refine zp ?_|refine zq ?_|refine zr ?_|refine zs ?_)
    refine ⟨i + 1, _, ⟨rfl, trivial⟩, ⟨by omega, h4, by rw [List.length_set, List.length_set]; exact hAl, fun v hv => ?_, hE4⟩, by omega⟩
    rw [setI (by rw [List.length_set]; omega), setI (by omega), hst v, hAv v hv]
    by_cases c1 : v = b
    · subst c1
      rw [if_pos rfl, if_neg (fun e => hab (by omega)), if_pos rfl]
      have := hAv v hv
      rw [vb] at this
      omega
    · by_cases c2 : v = a
      · subst c2
        rw [if_neg c1, if_pos rfl, if_pos rfl, if_neg (fun e => hab (by omega))]
        have := hAv v hv
        rw [va] at this
        omega
      · rw [if_neg c1, if_neg c2, if_neg (fun e => c2 e.symm), if_neg (fun e => c1 e.symm)]
        omega
  have : i = L.length := by omega
  subst this
  clear hin hi
  have hAb := (World.ownsRow.lt hA base rfl).2
  repeat' (first|refine za ?_|refine zA ?_|refine zB ?_|refine zb ?_|refine wc_seq_ne 9 rfl ?_|refine ze ?_|refine zd ?_|refine zC ?_|refine zD ?_|refine zE ?_|refine zF ?_|refine zG ?_|refine zH ?_|refine zI ?_|refine zJ ?_|refine zK ?_|refine zL ?_|refine zM ?_|refine zN ?_|refine zO ?_|refine zP ?_|refine zQ ?_|refine zR ?_|refine zS ?_|refine zU ?_|refine zV ?_|refine zW ?_|refine zt (fun hcd => ?_) (fun hcd => ?_)|refine zu (fun hcd => ?_) (fun hcd => ?_)|refine zX ?_|refine zY ?_|refine zv (fun hcd => ?_) (fun hcd => ?_)|refine zk ?_|refine zl ?_|refine zm ?_|refine zn ?_|refine zf ?_|refine zg ?_|refine zj ?_|refine zZ ?_|refine zh ?_|refine zi ?_|refine zo ?_|refine zp ?_|refine zq ?_|refine zr ?_|refine zs ?_)
  refine wc_join (σ := Nat × Nat) [0, 1, 5, 6] (fun g => [(10, .slice (some ⟨g.1, 0, none⟩) N N), (11, .slice (some ⟨g.2, 0, none⟩) N N)])
    (fun g w' => Ext wk w' ∧ OwnI w' wk.heap.size 3 (.slice (some ⟨g.1, 0, none⟩) N N) (List.replicate N 0) ∧ OwnI w' wk.heap.size 3 (.slice (some ⟨g.2, 0, none⟩) N N) (List.replicate N 0) ∧ g.1 ≠ g.2) rfl ?_ ?_
  · (refine wc_heldB (fun _ => True) (.take 0 (.take 2 (.two 1 (.two 3 (.one 4 (.one 5 .done)) 4 (.one 3 (.one 5 .done))) 3 (.one 1 (.one 4 (.one 5 .done)))))) (by kernel_rfl) (by kernel_rfl) (by first | trivial | assumption) ?_)
    have hEd := Ext.drew wk
    refine whB_take (v := .int .i64 (N : Int)) rfl rfl (fun w' hw' => rv_move_v rfl) ?_
    refine whB_take (v := .int .i64 (N : Int)) rfl rfl (fun w' hw' => rv_move_v rfl) ?_
    refine whB_two rfl rfl rfl rfl ?_ ?_
    · refine r_make_i (n := N) el23 rfl rfl (by omega) fun w3 h3 hE3 hs3 => ⟨trivial, ?_⟩
      refine whB_two rfl rfl rfl rfl ?_ ?_
      · refine r_make_i (n := N) el23 rfl rfl (by omega) fun w4 h4 hE4 hs4 => ⟨trivial, ?_⟩
        refine whB_one rfl rfl ?_
        refine r_assign ⟨trivial, ?_⟩
        refine whB_one rfl rfl ?_
        refine r_assign ⟨trivial, ?_⟩
        refine whB_done ?_
        refine thenQ_normal ⟨(wk.drew.heap.size, w3.heap.size), ⟨rfl, rfl, trivial⟩, (hEd.trans hE3).trans hE4, ownsRow_mono (ownsRow_ext h3 hE4) hEd.size, ownsRow_mono h4 (hEd.trans hE3).size, Nat.ne_of_lt hs3⟩
      · refine r_assign ⟨trivial, ?_⟩
        refine whB_one rfl rfl ?_
        refine r_make_i (n := N) el23 rfl rfl (by omega) fun w4 h4 hE4 hs4 => ⟨trivial, ?_⟩
        refine whB_one rfl rfl ?_
        refine r_assign ⟨trivial, ?_⟩
        refine whB_done ?_
        refine thenQ_normal ⟨(wk.drew.heap.size, w3.heap.size), ⟨rfl, rfl, trivial⟩, (hEd.trans hE3).trans hE4, ownsRow_mono (ownsRow_ext h3 hE4) hEd.size, ownsRow_mono h4 (hEd.trans hE3).size, Nat.ne_of_lt hs3⟩
    · refine r_make_i (n := N) el23 rfl rfl (by omega) fun w3 h3 hE3 hs3 => ⟨trivial, ?_⟩
      refine whB_one rfl rfl ?_
      refine r_make_i (n := N) el23 rfl rfl (by omega) fun w4 h4 hE4 hs4 => ⟨trivial, ?_⟩
      refine whB_one rfl rfl ?_
      refine r_assign ⟨trivial, ?_⟩
      refine whB_one rfl rfl ?_
      refine r_assign ⟨trivial, ?_⟩
      refine whB_done ?_
      refine thenQ_normal ⟨(w3.heap.size, wk.drew.heap.size), ⟨rfl, rfl, trivial⟩, (hEd.trans hE3).trans hE4, ownsRow_mono h4 (hEd.trans hE3).size, ownsRow_mono (ownsRow_ext h3 hE4) hEd.size, Nat.ne_of_gt hs3⟩
  rintro ⟨ga, gb⟩ w3 x3 ⟨hE3, hOa, hOb, hgab⟩
  simp only at hOa hOb hgab
  have hga := World.ownsRow.lt hOa ga rfl
  have hgb := World.ownsRow.lt hOb gb rfl
  have hA3 := ownsRow_ext hA hE3
  have hE03 := hE.trans hE3
  have hpsa : (some (⟨ga, 0, none⟩ : Addr)).isSome = true := rfl
  have hpsb : (some (⟨gb, 0, none⟩ : Addr)).isSome = true := rfl
  have hszk := hE.size
  clear hE3 hA
  repeat' (first|refine za ?_|refine zA ?_|refine zB ?_|refine zb ?_|refine zc ?_|refine ze ?_|refine zd ?_|refine zC ?_|refine zD ?_|refine zE ?_|refine zF ?_|refine zG ?_|refine zH ?_|refine zI ?_|refine zJ ?_|refine zK ?_|refine zL ?_|refine zM ?_|refine zN ?_|refine zO ?_|refine zP ?_|refine zQ ?_|refine zR ?_|refine zS ?_|refine zU ?_|refine zV ?_|refine zW ?_|refine zt (fun hcd => ?_) (fun hcd => ?_)|refine zu (fun hcd => ?_) (fun hcd => ?_)|refine zX ?_|refine zY ?_|refine zv (fun hcd => ?_) (fun hcd => ?_)|refine zk ?_|refine zl ?_|refine zm ?_|refine zn ?_|refine zf ?_|refine zg ?_|refine zj ?_|refine zZ ?_|refine zh ?_|refine zi ?_|refine zo ?_|refine zp ?_|refine zq ?_|refine zr ?_|refine zs ?_)
  refine wc_loop5 [0, 1, 5, 6, 10, 11] (fun (s t : Nat) (best size : Int) (all : Nat) => [(12, .int .i64 t), (13, .int .i64 best), (14, .int .i64 size), (15, .int .i64 all), (16, .int .i64 s)])
    (fun s t best size all wj => (1 ≤ s ∧ s ≤ N) ∧ (t < n ∧ 2 ^ t ≤ max 1 (s - 1) ∧ s - 1 < 2 * 2 ^ t) ∧ Bst (insI L) (onesI n) s best size all ∧
      (∃ O I, OwnI wj wk.heap.size 3 (.slice (some ⟨ga, 0, none⟩) N N) O ∧ O.length = N ∧ (∀ r, r < s → O.getD r 0 = onesI n r) ∧ OwnI wj wk.heap.size 3 (.slice (some ⟨gb, 0, none⟩) N N) I ∧ I.length = N ∧ (∀ r, r < s → I.getD r 0 = insI L r)) ∧ Ch (fun k => k = ga ∨ k = gb) w3 wj) (fun s _ _ _ _ => N - s) 1 0 0 1 0 rfl ⟨rfl, rfl, rfl, rfl, rfl, trivial⟩
    ⟨by omega, ⟨by omega, by decide, by decide⟩, Bst.start (insI_one hG) (onesI_one hn.1), ⟨_, _, hOa, by simp, fun r hr => ?_, hOb, by simp, fun r hr => ?_⟩, Ch.refl _ _⟩ ?_
  · have : r = 0 := by omega
    subst this
    rw [onesI_zero, List.getD_eq_getElem?_getD, List.getElem?_replicate, if_pos (by omega)]; rfl
  · have : r = 0 := by omega
    subst this
    rw [insI_zero, List.getD_eq_getElem?_getD, List.getElem?_replicate, if_pos (by omega)]; rfl
  clear hOa hOb
  rintro s t best size all wj y ⟨hs, ht, hB, ⟨O, I, hO, hOl, hOv, hI, hIl, hIv⟩, hC⟩
  have hA := ownsRow_keep hA3 hC fun g hg e => by have : base = g := Option.some.inj hg; omega
  have hallN := hB.lt_pow (n := n) (by omega)
  rw [hN] at hallN
  have hbs : (0 ≤ best ∧ best ≤ 1000) ∧ 1 ≤ size ∧ size ≤ 16 := by
    obtain ⟨r, _, _, e1, e2⟩ := hB.att
    have h1 := insI_nn (L := L) (s := r)
    have h2 := onesI_nn (n := n) (s := r)
    have h3 := hB.sz
    omega
  by_cases hsN : s < N
  rotate_left 1
  · have : s = N := by omega
    subst this
    rw [hN] at *
    have hEj : Ext w wj := Ch.trans' hE03 hC fun k hk e => by omega
    clear hO hI hA hOv hIv ht
    repeat' (first|refine za ?_|refine zA ?_|refine zB ?_|refine zb ?_|refine zc ?_|refine ze ?_|refine zd ?_|refine zC ?_|refine zD ?_|refine zE ?_|refine zF ?_|refine zG ?_|refine zH ?_|refine zI ?_|refine zJ ?_|refine zK ?_|refine zL ?_|refine zM ?_|refine zN ?_|refine zO ?_|refine zP ?_|refine zQ ?_|refine zR ?_|refine zS ?_|refine zU ?_|refine zV ?_|refine zW ?_|refine zt (fun hcd => ?_) (fun hcd => ?_)|refine zu (fun hcd => ?_) (fun hcd => ?_)|refine zX ?_|refine zY ?_|refine zv (fun hcd => ?_) (fun hcd => ?_)|refine zk ?_|refine zl ?_|refine zm ?_|refine zn ?_|refine zf ?_|refine zg ?_|refine zj ?_|refine zZ ?_|refine zh ?_|refine zi ?_|refine zo ?_|refine zp ?_|refine zq ?_|refine zr ?_|refine zs ?_)
    refine wc_loop2 [0, 15] (fun (v : Nat) (vo : Value) => [(20, vo), (21, .int .i64 v)]) (fun v vo wl => v ≤ n ∧ OwnI wl base 3 vo (blL all v) ∧ Ext w wl) (fun v _ => n - v) 0 (.slice none 0 0) rfl ⟨rfl, rfl, trivial⟩ ⟨by omega, World.ownsRow_nil _ _ _ _, hEj⟩ ?_
    rintro v vo wl z ⟨hv, hO, hEl⟩
    by_cases hvn : v < n
    · have hbl : blL all (v + 1) = blL all v ++ if all.testBit v = true then [(v : Int)] else [] := rfl
      have hbit := testBit_div all v
      have hlen := blL_len (s := all) v
      have hlen2 := onesI_nn (n := v) (s := all)
      obtain ⟨qb, hqb⟩ : ∃ q, all / 2 ^ v = q := ⟨_, rfl⟩
      rw [hqb] at hbit
      have hsz := hEl.size
      by_cases c : qb % 2 = 1
      · rw [if_pos (hbit.2 c)] at hbl
        have hc' : (qb : Int) % 2 = 1 := by omega
        repeat' (first|refine za ?_|refine zA ?_|refine zB ?_|refine zb ?_|refine zc ?_|refine ze ?_|refine zd ?_|refine zC ?_|refine zD ?_|refine zE ?_|refine zF ?_|refine zG ?_|refine zH ?_|refine zI ?_|refine zJ ?_|refine zK ?_|refine zL ?_|refine zM ?_|refine zN ?_|refine zO ?_|refine zP ?_|refine zQ ?_|refine zR ?_|refine zS ?_|refine zU ?_|refine zV ?_|refine zW ?_|refine zt (fun hcd => ?_) (fun hcd => ?_)|refine zu (fun hcd => ?_) (fun hcd => ?_)|refine zX ?_|refine zY ?_|refine zv (fun hcd => ?_) (fun hcd => ?_)|refine zk ?_|refine zl ?_|refine zm ?_|refine zn ?_|refine zf ?_|refine zg ?_|refine zj ?_|refine zZ ?_|refine zh ?_|refine zi ?_|refine zo ?_|refine zp ?_|refine zq ?_|refine zr ?_|refine zs ?_)
        refine r_shrN (m := all) (n := v) (r := qb) rfl rfl (by omega) hqb ?_
        repeat' (first|refine za ?_|refine zA ?_|refine zB ?_|refine zb ?_|refine zc ?_|refine ze ?_|refine zd ?_|refine zC ?_|refine zD ?_|refine zE ?_|refine zF ?_|refine zG ?_|refine zH ?_|refine zI ?_|refine zJ ?_|refine zK ?_|refine zL ?_|refine zM ?_|refine zN ?_|refine zO ?_|refine zP ?_|refine zQ ?_|refine zR ?_|refine zS ?_|refine zU ?_|refine zV ?_|refine zW ?_|refine zt (fun hcd => ?_) (fun hcd => ?_)|refine zu (fun hcd => ?_) (fun hcd => ?_)|refine zX ?_|refine zY ?_|refine zv (fun hcd => ?_) (fun hcd => ?_)|refine zk ?_|refine zl ?_|refine zm ?_|refine zn ?_|refine zf ?_|refine zg ?_|refine zj ?_|refine zZ ?_|refine zh ?_|refine zi ?_|refine zo ?_|refine zp ?_|refine zq ?_|refine zr ?_|refine zs ?_)
        refine r_rem_in rfl rfl (by omega) (by omega) ?_
        repeat' (first|refine za ?_|refine zA ?_|refine zB ?_|refine zb ?_|refine zc ?_|refine ze ?_|refine zd ?_|refine zC ?_|refine zD ?_|refine zE ?_|refine zF ?_|refine zG ?_|refine zH ?_|refine zI ?_|refine zJ ?_|refine zK ?_|refine zL ?_|refine zM ?_|refine zN ?_|refine zO ?_|refine zP ?_|refine zQ ?_|refine zR ?_|refine zS ?_|refine zU ?_|refine zV ?_|refine zW ?_|refine zt (fun hcd => ?_) (fun hcd => ?_)|refine zu (fun hcd => ?_) (fun hcd => ?_)|refine zX ?_|refine zY ?_|refine zv (fun hcd => ?_) (fun hcd => ?_)|refine zk ?_|refine zl ?_|refine zm ?_|refine zn ?_|refine zf ?_|refine zg ?_|refine zj ?_|refine zZ ?_|refine zh ?_|refine zi ?_|refine zo ?_|refine zp ?_|refine zq ?_|refine zr ?_|refine zs ?_)
        refine r_append1_i el23 hO rfl rfl (by omega) (by omega) ?_
        intro v8 w8 z8 hO8 hg8 _ _
        have hC8 : Ch (fun k => vo.ownBlock = some k) wl w8 := Ch.grown hg8 fun k hk => hk
        repeat' (first|refine za ?_|refine zA ?_|refine zB ?_|refine zb ?_|refine zc ?_|refine ze ?_|refine zd ?_|refine zC ?_|refine zD ?_|refine zE ?_|refine zF ?_|refine zG ?_|refine zH ?_|refine zI ?_|refine zJ ?_|refine zK ?_|refine zL ?_|refine zM ?_|refine zN ?_|refine zO ?_|refine zP ?_|refine zQ ?_|refine zR ?_|refine zS ?_|refine zU ?_|refine zV ?_|refine zW ?_|refine zt (fun hcd => ?_) (fun hcd => ?_)|refine zu (fun hcd => ?_) (fun hcd => ?_)|refine zX ?_|refine zY ?_|refine zv (fun hcd => ?_) (fun hcd => ?_)|refine zk ?_|refine zl ?_|refine zm ?_|refine zn ?_|refine zf ?_|refine zg ?_|refine zj ?_|refine zZ ?_|refine zh ?_|refine zi ?_|refine zo ?_|refine zp ?_|refine zq ?_|refine zr ?_|refine zs ?_)
        exact ⟨v + 1, v8, ⟨rfl, rfl, trivial⟩, ⟨by omega, by rw [hbl]; exact hO8, Ch.trans' hEl hC8 fun k hk e => by have := (World.ownsRow.lt hO k e).1; omega⟩, by omega⟩
      · rw [if_neg (fun e => c (hbit.1 e)), List.append_nil] at hbl
        have hc' : ¬ (qb : Int) % 2 = 1 := by omega
        repeat' (first|refine za ?_|refine zA ?_|refine zB ?_|refine zb ?_|refine zc ?_|refine ze ?_|refine zd ?_|refine zC ?_|refine zD ?_|refine zE ?_|refine zF ?_|refine zG ?_|refine zH ?_|refine zI ?_|refine zJ ?_|refine zK ?_|refine zL ?_|refine zM ?_|refine zN ?_|refine zO ?_|refine zP ?_|refine zQ ?_|refine zR ?_|refine zS ?_|refine zU ?_|refine zV ?_|refine zW ?_|refine zt (fun hcd => ?_) (fun hcd => ?_)|refine zu (fun hcd => ?_) (fun hcd => ?_)|refine zX ?_|refine zY ?_|refine zv (fun hcd => ?_) (fun hcd => ?_)|refine zk ?_|refine zl ?_|refine zm ?_|refine zn ?_|refine zf ?_|refine zg ?_|refine zj ?_|refine zZ ?_|refine zh ?_|refine zi ?_|refine zo ?_|refine zp ?_|refine zq ?_|refine zr ?_|refine zs ?_)
        refine r_shrN (m := all) (n := v) (r := qb) rfl rfl (by omega) hqb ?_
        repeat' (first|refine za ?_|refine zA ?_|refine zB ?_|refine zb ?_|refine zc ?_|refine ze ?_|refine zd ?_|refine zC ?_|refine zD ?_|refine zE ?_|refine zF ?_|refine zG ?_|refine zH ?_|refine zI ?_|refine zJ ?_|refine zK ?_|refine zL ?_|refine zM ?_|refine zN ?_|refine zO ?_|refine zP ?_|refine zQ ?_|refine zR ?_|refine zS ?_|refine zU ?_|refine zV ?_|refine zW ?_|refine zt (fun hcd => ?_) (fun hcd => ?_)|refine zu (fun hcd => ?_) (fun hcd => ?_)|refine zX ?_|refine zY ?_|refine zv (fun hcd => ?_) (fun hcd => ?_)|refine zk ?_|refine zl ?_|refine zm ?_|refine zn ?_|refine zf ?_|refine zg ?_|refine zj ?_|refine zZ ?_|refine zh ?_|refine zi ?_|refine zo ?_|refine zp ?_|refine zq ?_|refine zr ?_|refine zs ?_)
        refine r_rem_in rfl rfl (by omega) (by omega) ?_
        repeat' (first|refine za ?_|refine zA ?_|refine zB ?_|refine zb ?_|refine zc ?_|refine ze ?_|refine zd ?_|refine zC ?_|refine zD ?_|refine zE ?_|refine zF ?_|refine zG ?_|refine zH ?_|refine zI ?_|refine zJ ?_|refine zK ?_|refine zL ?_|refine zM ?_|refine zN ?_|refine zO ?_|refine zP ?_|refine zQ ?_|refine zR ?_|refine zS ?_|refine zU ?_|refine zV ?_|refine zW ?_|refine zt (fun hcd => ?_) (fun hcd => ?_)|refine zu (fun hcd => ?_) (fun hcd => ?_)|refine zX ?_|refine zY ?_|refine zv (fun hcd => ?_) (fun hcd => ?_)|refine zk ?_|refine zl ?_|refine zm ?_|refine zn ?_|refine zf ?_|refine zg ?_|refine zj ?_|refine zZ ?_|refine zh ?_|refine zi ?_|refine zo ?_|refine zp ?_|refine zq ?_|refine zr ?_|refine zs ?_)
        exact ⟨v + 1, vo, ⟨rfl, rfl, trivial⟩, ⟨by omega, by rw [hbl]; exact hO, hEl⟩, by omega⟩
    · have : v = n := by omega
      subst this
      repeat' (first|refine za ?_|refine zA ?_|refine zB ?_|refine zb ?_|refine zc ?_|refine ze ?_|refine zd ?_|refine zC ?_|refine zD ?_|refine zE ?_|refine zF ?_|refine zG ?_|refine zH ?_|refine zI ?_|refine zJ ?_|refine zK ?_|refine zL ?_|refine zM ?_|refine zN ?_|refine zO ?_|refine zP ?_|refine zQ ?_|refine zR ?_|refine zS ?_|refine zU ?_|refine zV ?_|refine zW ?_|refine zt (fun hcd => ?_) (fun hcd => ?_)|refine zu (fun hcd => ?_) (fun hcd => ?_)|refine zX ?_|refine zY ?_|refine zv (fun hcd => ?_) (fun hcd => ?_)|refine zk ?_|refine zl ?_|refine zm ?_|refine zn ?_|refine zf ?_|refine zg ?_|refine zj ?_|refine zZ ?_|refine zh ?_|refine zi ?_|refine zo ?_|refine zp ?_|refine zq ?_|refine zr ?_|refine zs ?_)
      refine post1 (v := vo) rfl rfl ?_
      exact ⟨⟨all, best, size, hB, hO⟩, hEl⟩
  have hmul : 2 * 2 ^ t = 2 ^ (t + 1) := by rw [Nat.pow_succ]; omega
  have hpt : 0 < 2 ^ t := Nat.two_pow_pos t
  obtain ⟨T2, hT2⟩ : ∃ p, 2 * 2 ^ t = p := ⟨_, rfl⟩
  have hT2b : T2 ≤ 131072 := by have := two_pow_le16 (n := t) (by omega); omega
  repeat' (first | refine wl_plain ?_ | refine r_move_v (v := .int _ _) rfl ?_ | refine r_move_v (v := .slice _ _ _) rfl ?_ | refine r_move_v (v := .bool _) rfl ?_ | refine r_move_v (v := .pointer _) rfl ?_ | refine r_move_v (v := .map _) rfl ?_ | refine r_move ?_ | refine r_assign_v (v := .int _ _) rfl ?_ | refine r_assign_v (v := .slice _ _ _) rfl ?_ | refine r_assign_v (v := .bool _) rfl ?_ | refine r_assign_v (v := .pointer _) rfl ?_ | refine r_assign_v (v := .map _) rfl ?_ | refine r_assign ?_ | refine wl_nil ?_ | refine wc_seq_ne2 15 rfl ?_ | refine thenQ_normal ?_ | refine wc_region ?_ | refine k_lss_t rfl rfl (by omega) ?_ | refine k_lss_f rfl rfl (by omega) ?_ | refine k_leq_t rfl rfl (by omega) ?_ | refine k_leq_f rfl rfl (by omega) ?_ | refine k_gtr_t rfl rfl (by omega) ?_ | refine k_gtr_f rfl rfl (by omega) ?_ | refine k_geq_t rfl rfl (by omega) ?_ | refine k_geq_f rfl rfl (by omega) ?_ | refine k_eql_t rfl rfl (by omega) ?_ | refine k_eql_f rfl rfl (by omega) ?_ | refine k_neq_t rfl rfl (by omega) ?_ | refine k_neq_f rfl rfl (by omega) ?_ | refine r_lss rfl rfl ?_ | refine r_eql rfl rfl ?_ | refine r_neq rfl rfl ?_ | refine r_leq rfl rfl ?_ | refine r_gtr rfl rfl ?_ | refine r_geq rfl rfl ?_ | refine r_add_in rfl rfl (by omega) ?_ | refine r_sub_in rfl rfl (by omega) ?_ | refine r_len rfl rfl ?_ | (refine r_idx (sz := 1) rfl rfl rfl (by first | rfl | assumption) (by omega) (by omega) ?_) | (refine r_idx (sz := 2) rfl rfl rfl (by first | rfl | assumption) (by omega) (by omega) ?_) | (refine r_ld rfl rfl (by assumption) ?_) | refine r_not_d rfl ?_ | refine r_not rfl ?_ | refine r_nilCheck rfl ?_ | refine r_pick_t rfl ?_ | refine r_pick_f rfl ?_ | refine r_ext rfl rfl ?_ | refine wl_run rfl rfl ?_ | refine wl_pass rfl rfl rfl ?_ | refine wl_dead rfl rfl ?_ | refine wl_if_t rfl rfl (fun hcd => ?_) (fun hcd => ?_) | refine wl_if_f rfl rfl (fun hcd => ?_) (fun hcd => ?_) | refine wc_cond_t rfl ?_ | refine wc_cond_f rfl ?_ | refine wc_cond_d rfl (fun hcd => ?_) (fun hcd => ?_) | refine wc_skip ?_ | refine wc_block ?_ | refine wc_exit ?_ | refine wc_ret ?_ | refine thenQ_ret ?_ | refine thenQ_exit ?_ | refine inBl_here ?_ | refine inBl_out rfl ?_ | refine inBl_normal ?_ | refine inBl_ret ?_)
  refine wc_join (σ := Nat) [0, 1, 5, 6, 10, 11, 13, 14, 15, 16] (fun t' => [(12, .int .i64 t')]) (fun t' w' => t' < n ∧ 2 ^ t' ≤ s ∧ s < 2 * 2 ^ t' ∧ w' = wj) rfl ?_ ?_
  · by_cases c : T2 ≤ s
    · repeat' (first|refine za ?_|refine zA ?_|refine zB ?_|refine zb ?_|refine zc ?_|refine ze ?_|refine zd ?_|refine zC ?_|refine zD ?_|refine zE ?_|refine zF ?_|refine zG ?_|refine zH ?_|refine zI ?_|refine zJ ?_|refine zK ?_|refine zL ?_|refine zM ?_|refine zN ?_|refine zO ?_|refine zP ?_|refine zQ ?_|refine zR ?_|refine zS ?_|refine zU ?_|refine zV ?_|refine zW ?_|refine zt (fun hcd => ?_) (fun hcd => ?_)|refine zu (fun hcd => ?_) (fun hcd => ?_)|refine zX ?_|refine zY ?_|refine zv (fun hcd => ?_) (fun hcd => ?_)|refine zk ?_|refine zl ?_|refine zm ?_|refine zn ?_|refine zf ?_|refine zg ?_|refine zj ?_|refine zZ ?_|refine zh ?_|refine zi ?_|refine zo ?_|refine zp ?_|refine zq ?_|refine zr ?_|refine zs ?_)
      refine r_shlN (m := 2) (n := t) (r := T2) rfl rfl (by omega) hT2 (by omega) ?_
      repeat' (first|refine za ?_|refine zA ?_|refine zB ?_|refine zb ?_|refine zc ?_|refine ze ?_|refine zd ?_|refine zC ?_|refine zD ?_|refine zE ?_|refine zF ?_|refine zG ?_|refine zH ?_|refine zI ?_|refine zJ ?_|refine zK ?_|refine zL ?_|refine zM ?_|refine zN ?_|refine zO ?_|refine zP ?_|refine zQ ?_|refine zR ?_|refine zS ?_|refine zU ?_|refine zV ?_|refine zW ?_|refine zt (fun hcd => ?_) (fun hcd => ?_)|refine zu (fun hcd => ?_) (fun hcd => ?_)|refine zX ?_|refine zY ?_|refine zv (fun hcd => ?_) (fun hcd => ?_)|refine zk ?_|refine zl ?_|refine zm ?_|refine zn ?_|refine zf ?_|refine zg ?_|refine zj ?_|refine zZ ?_|refine zh ?_|refine zi ?_|refine zo ?_|refine zp ?_|refine zq ?_|refine zr ?_|refine zs ?_)
      refine ⟨t + 1, ⟨rfl, trivial⟩, ?_, by omega, ?_, rfl⟩
      · have : 2 ^ (t + 1) < 2 ^ n := by omega
        exact (Nat.pow_lt_pow_iff_right (by decide)).1 this
      · rw [← hmul]; omega
    · repeat' (first|refine za ?_|refine zA ?_|refine zB ?_|refine zb ?_|refine zc ?_|refine ze ?_|refine zd ?_|refine zC ?_|refine zD ?_|refine zE ?_|refine zF ?_|refine zG ?_|refine zH ?_|refine zI ?_|refine zJ ?_|refine zK ?_|refine zL ?_|refine zM ?_|refine zN ?_|refine zO ?_|refine zP ?_|refine zQ ?_|refine zR ?_|refine zS ?_|refine zU ?_|refine zV ?_|refine zW ?_|refine zt (fun hcd => ?_) (fun hcd => ?_)|refine zu (fun hcd => ?_) (fun hcd => ?_)|refine zX ?_|refine zY ?_|refine zv (fun hcd => ?_) (fun hcd => ?_)|refine zk ?_|refine zl ?_|refine zm ?_|refine zn ?_|refine zf ?_|refine zg ?_|refine zj ?_|refine zZ ?_|refine zh ?_|refine zi ?_|refine zo ?_|refine zp ?_|refine zq ?_|refine zr ?_|refine zs ?_)
      refine r_shlN (m := 2) (n := t) (r := T2) rfl rfl (by omega) hT2 (by omega) ?_
      repeat' (first|refine za ?_|refine zA ?_|refine zB ?_|refine zb ?_|refine zc ?_|refine ze ?_|refine zd ?_|refine zC ?_|refine zD ?_|refine zE ?_|refine zF ?_|refine zG ?_|refine zH ?_|refine zI ?_|refine zJ ?_|refine zK ?_|refine zL ?_|refine zM ?_|refine zN ?_|refine zO ?_|refine zP ?_|refine zQ ?_|refine zR ?_|refine zS ?_|refine zU ?_|refine zV ?_|refine zW ?_|refine zt (fun hcd => ?_) (fun hcd => ?_)|refine zu (fun hcd => ?_) (fun hcd => ?_)|refine zX ?_|refine zY ?_|refine zv (fun hcd => ?_) (fun hcd => ?_)|refine zk ?_|refine zl ?_|refine zm ?_|refine zn ?_|refine zf ?_|refine zg ?_|refine zj ?_|refine zZ ?_|refine zh ?_|refine zi ?_|refine zo ?_|refine zp ?_|refine zq ?_|refine zr ?_|refine zs ?_)
      exact ⟨t, ⟨rfl, trivial⟩, ht.1, by omega, by omega, rfl⟩
  clear ht hmul hpt hT2 hT2b T2
  rintro t' w' z ⟨ht, hts, hts2, rfl⟩
  obtain ⟨r, hr⟩ : ∃ r, s = 2 ^ t' + r := ⟨s - 2 ^ t', by omega⟩
  have hrlt : r < 2 ^ t' := by omega
  have eo := ones_top (n := n) ht hrlt
  have ei := ins_top hG hrlt
  rw [← hr] at eo ei
  obtain ⟨Tp, hTp⟩ : ∃ p, 2 ^ t' = p := ⟨_, rfl⟩
  rw [hTp] at hr hrlt hts
  have hnear := hAv t' ht
  have hnb := nearN_lt hG (v := t') (i := L.length) (Nat.le_refl _)
  rw [hN] at hnb
  generalize nearN L t' L.length = nr at *
  have hand : r &&& nr ≤ r := Nat.and_le_left
  obtain ⟨an, han⟩ : ∃ p, r &&& nr = p := ⟨_, rfl⟩
  rw [han] at hand ei
  have o1 := hOv r (by omega)
  have o2 := hOv an (by omega)
  have i1 := hIv r (by omega)
  have nO := onesI_nn (n := n) (s := s)
  have nOr := onesI_nn (n := n) (s := r)
  have nOa := onesI_nn (n := n) (s := an)
  have nI := insI_nn (L := L) (s := s)
  have nIr := insI_nn (L := L) (s := r)
  have pos := onesI_pos (n := n) (s := s) hs.1 (by omega)
  have posr : ∀ r, 1 ≤ r → r ≤ s → 0 < onesI n r := fun r h1 h2 => onesI_pos h1 (by omega)
  have rO := (OwnI.ints hO).rd (i := r) (by omega)
  rw [o1] at rO
  have bgt := hB.gt hs.1 posr
  have beq := hB.eq hs.1
  have blt := hB.lt
  generalize hfs : insI L s = fs at *
  generalize hgs : onesI n s = gs at *
  generalize hfr : insI L r = fr at *
  generalize hgr : onesI n r = gr at *
  generalize hga' : onesI n an = gan at *
  have m1 : 0 ≤ fs * size ∧ fs * size ≤ 1000 * 16 := ⟨Int.mul_nonneg (by omega) (by omega), Int.mul_le_mul (by omega) (by omega) (by omega) (by omega)⟩
  have m2 : 0 ≤ best * gs ∧ best * gs ≤ 1000 * 16 := ⟨Int.mul_nonneg (by omega) (by omega), Int.mul_le_mul (by omega) (by omega) (by omega) (by omega)⟩
  have hless : (s : Int) - Tp = r := by omega
  repeat' (first|refine za ?_|refine zA ?_|refine zB ?_|refine zb ?_|refine wc_seq_ne 17 rfl ?_|refine ze ?_|refine zd ?_|refine zC ?_|refine zD ?_|refine zE ?_|refine zF ?_|refine zG ?_|refine zH ?_|refine zI ?_|refine zJ ?_|refine zK ?_|refine zL ?_|refine zM ?_|refine zN ?_|refine zO ?_|refine zP ?_|refine zQ ?_|refine zR ?_|refine zS ?_|refine zU ?_|refine zV ?_|refine zW ?_|refine zt (fun hcd => ?_) (fun hcd => ?_)|refine zu (fun hcd => ?_) (fun hcd => ?_)|refine zX ?_|refine zY ?_|refine zv (fun hcd => ?_) (fun hcd => ?_)|refine zk ?_|refine zl ?_|refine zm ?_|refine zn ?_|refine zf ?_|refine zg ?_|refine zj ?_|refine zZ ?_|refine zh ?_|refine zi ?_|refine zo ?_|refine zp ?_|refine zq ?_|refine zr ?_|refine zs ?_)
  refine wc_join (σ := Unit) [0, 1, 5, 6, 10, 11, 12, 13, 14, 15, 16] (fun _ => [(17, .int .i64 (r : Int))]) (fun _ w9 => w9 = w') rfl ?_ ?_
  · repeat' (first|refine za ?_|refine zA ?_|refine zB ?_|refine zb ?_|refine zc ?_|refine ze ?_|refine zd ?_|refine zC ?_|refine zD ?_|refine zE ?_|refine zF ?_|refine zG ?_|refine zH ?_|refine zI ?_|refine zJ ?_|refine zK ?_|refine zL ?_|refine zM ?_|refine zN ?_|refine zO ?_|refine zP ?_|refine zQ ?_|refine zR ?_|refine zS ?_|refine zU ?_|refine zV ?_|refine zW ?_|refine zt (fun hcd => ?_) (fun hcd => ?_)|refine zu (fun hcd => ?_) (fun hcd => ?_)|refine zX ?_|refine zY ?_|refine zv (fun hcd => ?_) (fun hcd => ?_)|refine zk ?_|refine zl ?_|refine zm ?_|refine zn ?_|refine zf ?_|refine zg ?_|refine zj ?_|refine zZ ?_|refine zh ?_|refine zi ?_|refine zo ?_|refine zp ?_|refine zq ?_|refine zr ?_|refine zs ?_)
    refine r_shlN (m := 1) (n := t') (r := Tp) rfl rfl (by omega) (by omega) (by omega) ?_
    repeat' (first|refine za ?_|refine zA ?_|refine zB ?_|refine zb ?_|refine zc ?_|refine ze ?_|refine zd ?_|refine zC ?_|refine zD ?_|refine zE ?_|refine zF ?_|refine zG ?_|refine zH ?_|refine zI ?_|refine zJ ?_|refine zK ?_|refine zL ?_|refine zM ?_|refine zN ?_|refine zO ?_|refine zP ?_|refine zQ ?_|refine zR ?_|refine zS ?_|refine zU ?_|refine zV ?_|refine zW ?_|refine zt (fun hcd => ?_) (fun hcd => ?_)|refine zu (fun hcd => ?_) (fun hcd => ?_)|refine zX ?_|refine zY ?_|refine zv (fun hcd => ?_) (fun hcd => ?_)|refine zk ?_|refine zl ?_|refine zm ?_|refine zn ?_|refine zf ?_|refine zg ?_|refine zj ?_|refine zZ ?_|refine zh ?_|refine zi ?_|refine zo ?_|refine zp ?_|refine zq ?_|refine zr ?_|refine zs ?_)
    exact ⟨(), ⟨congrArg (Value.int .i64) hless, trivial⟩, rfl⟩
  rintro _ w9 x9 rfl
  repeat' (first|refine za ?_|refine zA ?_|refine zB ?_|refine zb ?_|refine zc ?_|refine ze ?_|refine zd ?_|refine zC ?_|refine zD ?_|refine zE ?_|refine zF ?_|refine zG ?_|refine zH ?_|refine zI ?_|refine zJ ?_|refine zK ?_|refine zL ?_|refine zM ?_|refine zN ?_|refine zO ?_|refine zP ?_|refine zQ ?_|refine zR ?_|refine zS ?_|refine zU ?_|refine zV ?_|refine zW ?_|refine zt (fun hcd => ?_) (fun hcd => ?_)|refine zu (fun hcd => ?_) (fun hcd => ?_)|refine zX ?_|refine zY ?_|refine zv (fun hcd => ?_) (fun hcd => ?_)|refine zk ?_|refine zl ?_|refine zm ?_|refine zn ?_|refine zf ?_|refine zg ?_|refine zj ?_|refine zZ ?_|refine zh ?_|refine zi ?_|refine zo ?_|refine zp ?_|refine zq ?_|refine zr ?_|refine zs ?_)
  refine r_st_i (i := s) (a := gr + 1) (e := 3) (base := wk.heap.size) rfl hO rfl rfl (by omega) fun w5 h5 hg5 hs5 => ?_
  have hC5 : Ch (fun k => k = ga) w9 w5 := Ch.grown hg5 fun k hk => (Option.some.inj hk).symm
  have hI5 := ownsRow_keep hI hC5 fun g hg e => by have : gb = g := Option.some.inj hg; omega
  have hA5 := ownsRow_keep hA hC5 fun g hg e => by have : base = g := Option.some.inj hg; omega
  have hO6 := ownsRow_ext h5 (Ext.drew w5)
  have hI6 := ownsRow_ext hI5 (Ext.drew w5)
  have rA := (OwnI.ints (ownsRow_ext hA5 (Ext.drew w5))).rd (i := t') (by omega)
  rw [hnear] at rA
  have rI := (OwnI.ints hI6).rd (i := r) (by omega)
  rw [i1] at rI
  have rOn := (OwnI.ints hO6).rd (i := an) (by rw [List.length_set]; omega)
  rw [setI (by omega), if_neg (by omega), o2] at rOn
  repeat' (first|refine za ?_|refine zA ?_|refine zB ?_|refine zb ?_|refine zc ?_|refine ze ?_|refine zd ?_|refine zC ?_|refine zD ?_|refine zE ?_|refine zF ?_|refine zG ?_|refine zH ?_|refine zI ?_|refine zJ ?_|refine zK ?_|refine zL ?_|refine zM ?_|refine zN ?_|refine zO ?_|refine zP ?_|refine zQ ?_|refine zR ?_|refine zS ?_|refine zU ?_|refine zV ?_|refine zW ?_|refine zt (fun hcd => ?_) (fun hcd => ?_)|refine zu (fun hcd => ?_) (fun hcd => ?_)|refine zX ?_|refine zY ?_|refine zv (fun hcd => ?_) (fun hcd => ?_)|refine zk ?_|refine zl ?_|refine zm ?_|refine zn ?_|refine zf ?_|refine zg ?_|refine zj ?_|refine zZ ?_|refine zh ?_|refine zi ?_|refine zo ?_|refine zp ?_|refine zq ?_|refine zr ?_|refine zs ?_)
  (refine wc_drawn 17 (by kernel_rfl) (by kernel_rfl) ?_; simp only [List.take_succ_cons, List.take_zero, List.drop_succ_cons, List.drop_zero])
  repeat' (first|refine za ?_|refine zA ?_|refine zB ?_|refine zb ?_|refine zc ?_|refine ze ?_|refine zd ?_|refine zC ?_|refine zD ?_|refine zE ?_|refine zF ?_|refine zG ?_|refine zH ?_|refine zI ?_|refine zJ ?_|refine zK ?_|refine zL ?_|refine zM ?_|refine zN ?_|refine zO ?_|refine zP ?_|refine zQ ?_|refine zR ?_|refine zS ?_|refine zU ?_|refine zV ?_|refine zW ?_|refine zt (fun hcd => ?_) (fun hcd => ?_)|refine zu (fun hcd => ?_) (fun hcd => ?_)|refine zX ?_|refine zY ?_|refine zv (fun hcd => ?_) (fun hcd => ?_)|refine zk ?_|refine zl ?_|refine zm ?_|refine zn ?_|refine zf ?_|refine zg ?_|refine zj ?_|refine zZ ?_|refine zh ?_|refine zi ?_|refine zo ?_|refine zp ?_|refine zq ?_|refine zr ?_|refine zs ?_)
  refine r_andN (m := r) (n := nr) (r := an) rfl rfl (by omega) (by omega) han ?_
  repeat' (first|refine za ?_|refine zA ?_|refine zB ?_|refine zb ?_|refine zc ?_|refine ze ?_|refine zd ?_|refine zC ?_|refine zD ?_|refine zE ?_|refine zF ?_|refine zG ?_|refine zH ?_|refine zI ?_|refine zJ ?_|refine zK ?_|refine zL ?_|refine zM ?_|refine zN ?_|refine zO ?_|refine zP ?_|refine zQ ?_|refine zR ?_|refine zS ?_|refine zU ?_|refine zV ?_|refine zW ?_|refine zt (fun hcd => ?_) (fun hcd => ?_)|refine zu (fun hcd => ?_) (fun hcd => ?_)|refine zX ?_|refine zY ?_|refine zv (fun hcd => ?_) (fun hcd => ?_)|refine zk ?_|refine zl ?_|refine zm ?_|refine zn ?_|refine zf ?_|refine zg ?_|refine zj ?_|refine zZ ?_|refine zh ?_|refine zi ?_|refine zo ?_|refine zp ?_|refine zq ?_|refine zr ?_|refine zs ?_)
  refine r_st_i (i := s) (a := fr + gan) (e := 3) (base := wk.heap.size) rfl hI6 rfl rfl (by omega) fun w7 h7 hg7 hs7 => ?_
  have hC7 : Ch (fun k => k = gb) w5.drew w7 := Ch.grown hg7 fun k hk => (Option.some.inj hk).symm
  have hO7 := ownsRow_keep hO6 hC7 fun g hg e => by have : ga = g := Option.some.inj hg; omega
  have hO8 := ownsRow_ext hO7 (Ext.drew w7)
  have hI8 := ownsRow_ext h7 (Ext.drew w7)
  have rOs := (OwnI.ints hO8).rd (i := s) (by rw [List.length_set]; omega)
  rw [setI (by omega), if_pos rfl, ← eo] at rOs
  have rIs := (OwnI.ints hI8).rd (i := s) (by rw [List.length_set]; omega)
  rw [setI (by omega), if_pos rfl, ← ei] at rIs
  have hOv' : ∀ u, u < s + 1 → (O.set s (gr + 1)).getD u 0 = onesI n u := fun u hu => by
    rw [setI (by omega)]
    by_cases e : u = s
    · subst e; rw [if_pos rfl, hgs, eo]
    · rw [if_neg e]; exact hOv u (by omega)
  have hIv' : ∀ u, u < s + 1 → (I.set s (fr + gan)).getD u 0 = insI L u := fun u hu => by
    rw [setI (by omega)]
    by_cases e : u = s
    · subst e; rw [if_pos rfl, hfs, ei]
    · rw [if_neg e]; exact hIv u (by omega)
  have hC8 : Ch (fun k => k = ga ∨ k = gb) w3 w7.drew := Ch.trans' (Ch.trans' (Ch.trans' hC hC5 fun k _ e => .inl e) ((Ext.drew w5).ch.trans hC7) fun k _ e => .inr e) (Ext.drew w7) fun k _ e => e.elim
  have hrow : ∃ O I, OwnI w7.drew wk.heap.size 3 (.slice (some ⟨ga, 0, none⟩) N N) O ∧ O.length = N ∧ (∀ r, r < s + 1 → O.getD r 0 = onesI n r) ∧ OwnI w7.drew wk.heap.size 3 (.slice (some ⟨gb, 0, none⟩) N N) I ∧ I.length = N ∧ (∀ r, r < s + 1 → I.getD r 0 = insI L r) :=
    ⟨_, _, hO8, by rw [List.length_set]; exact hOl, hOv', hI8, by rw [List.length_set]; exact hIl, hIv'⟩
  clear hO hI hA hO6 hI6 hO7 h7 h5 hI5 hA5 hOv hIv hOv' hIv' hO8 hI8
  repeat' (first|refine za ?_|refine zA ?_|refine zB ?_|refine zb ?_|refine zc ?_|refine ze ?_|refine zd ?_|refine zC ?_|refine zD ?_|refine zE ?_|refine zF ?_|refine zG ?_|refine zH ?_|refine zI ?_|refine zJ ?_|refine zK ?_|refine zL ?_|refine zM ?_|refine zN ?_|refine zO ?_|refine zP ?_|refine zQ ?_|refine zR ?_|refine zS ?_|refine zU ?_|refine zV ?_|refine zW ?_|refine zt (fun hcd => ?_) (fun hcd => ?_)|refine zu (fun hcd => ?_) (fun hcd => ?_)|refine zX ?_|refine zY ?_|refine zv (fun hcd => ?_) (fun hcd => ?_)|refine zk ?_|refine zl ?_|refine zm ?_|refine zn ?_|refine zf ?_|refine zg ?_|refine zj ?_|refine zZ ?_|refine zh ?_|refine zi ?_|refine zo ?_|refine zp ?_|refine zq ?_|refine zr ?_|refine zs ?_)
  (refine wc_drawn 13 (by kernel_rfl) (by kernel_rfl) ?_; simp only [List.take_succ_cons, List.take_zero, List.drop_succ_cons, List.drop_zero])
  repeat' (first|refine za ?_|refine zA ?_|refine zB ?_|refine zb ?_|refine zc ?_|refine ze ?_|refine zd ?_|refine zC ?_|refine zD ?_|refine zE ?_|refine zF ?_|refine zG ?_|refine zH ?_|refine zI ?_|refine zJ ?_|refine zK ?_|refine zL ?_|refine zM ?_|refine zN ?_|refine zO ?_|refine zP ?_|refine zQ ?_|refine zR ?_|refine zS ?_|refine zU ?_|refine zV ?_|refine zW ?_|refine zt (fun hcd => ?_) (fun hcd => ?_)|refine zu (fun hcd => ?_) (fun hcd => ?_)|refine zX ?_|refine zY ?_|refine zv (fun hcd => ?_) (fun hcd => ?_)|refine zk ?_|refine zl ?_|refine zm ?_|refine zn ?_|refine zf ?_|refine zg ?_|refine zj ?_|refine zZ ?_|refine zh ?_|refine zi ?_|refine zo ?_|refine zp ?_|refine zq ?_|refine zr ?_|refine zs ?_)
  refine r_mul_in rfl rfl ⟨by omega, by omega⟩ ?_
  repeat' (first|refine za ?_|refine zA ?_|refine zB ?_|refine zb ?_|refine zc ?_|refine ze ?_|refine zd ?_|refine zC ?_|refine zD ?_|refine zE ?_|refine zF ?_|refine zG ?_|refine zH ?_|refine zI ?_|refine zJ ?_|refine zK ?_|refine zL ?_|refine zM ?_|refine zN ?_|refine zO ?_|refine zP ?_|refine zQ ?_|refine zR ?_|refine zS ?_|refine zU ?_|refine zV ?_|refine zW ?_|refine zt (fun hcd => ?_) (fun hcd => ?_)|refine zu (fun hcd => ?_) (fun hcd => ?_)|refine zX ?_|refine zY ?_|refine zv (fun hcd => ?_) (fun hcd => ?_)|refine zk ?_|refine zl ?_|refine zm ?_|refine zn ?_|refine zf ?_|refine zg ?_|refine zj ?_|refine zZ ?_|refine zh ?_|refine zi ?_|refine zo ?_|refine zp ?_|refine zq ?_|refine zr ?_|refine zs ?_)
  refine r_mul_in rfl rfl ⟨by omega, by omega⟩ ?_
  by_cases c1 : best * gs < fs * size
  · have hB' := bgt c1
    repeat' (first|refine za ?_|refine zA ?_|refine zB ?_|refine zb ?_|refine zc ?_|refine ze ?_|refine zd ?_|refine zC ?_|refine zD ?_|refine zE ?_|refine zF ?_|refine zG ?_|refine zH ?_|refine zI ?_|refine zJ ?_|refine zK ?_|refine zL ?_|refine zM ?_|refine zN ?_|refine zO ?_|refine zP ?_|refine zQ ?_|refine zR ?_|refine zS ?_|refine zU ?_|refine zV ?_|refine zW ?_|refine zt (fun hcd => ?_) (fun hcd => ?_)|refine zu (fun hcd => ?_) (fun hcd => ?_)|refine zX ?_|refine zY ?_|refine zv (fun hcd => ?_) (fun hcd => ?_)|refine zk ?_|refine zl ?_|refine zm ?_|refine zn ?_|refine zf ?_|refine zg ?_|refine zj ?_|refine zZ ?_|refine zh ?_|refine zi ?_|refine zo ?_|refine zp ?_|refine zq ?_|refine zr ?_|refine zs ?_)
    exact ⟨s + 1, t', fs, gs, s, ⟨rfl, rfl, rfl, rfl, rfl, trivial⟩, ⟨by omega, ⟨ht, by omega, by omega⟩, hB', hrow, hC8⟩, by omega⟩
  · by_cases c2 : fs * size = best * gs
    · have hB' := beq c2
      obtain ⟨al, hal⟩ : ∃ al, all ||| s = al := ⟨_, rfl⟩
      rw [hal] at hB'
      repeat' (first|refine za ?_|refine zA ?_|refine zB ?_|refine zb ?_|refine zc ?_|refine ze ?_|refine zd ?_|refine zC ?_|refine zD ?_|refine zE ?_|refine zF ?_|refine zG ?_|refine zH ?_|refine zI ?_|refine zJ ?_|refine zK ?_|refine zL ?_|refine zM ?_|refine zN ?_|refine zO ?_|refine zP ?_|refine zQ ?_|refine zR ?_|refine zS ?_|refine zU ?_|refine zV ?_|refine zW ?_|refine zt (fun hcd => ?_) (fun hcd => ?_)|refine zu (fun hcd => ?_) (fun hcd => ?_)|refine zX ?_|refine zY ?_|refine zv (fun hcd => ?_) (fun hcd => ?_)|refine zk ?_|refine zl ?_|refine zm ?_|refine zn ?_|refine zf ?_|refine zg ?_|refine zj ?_|refine zZ ?_|refine zh ?_|refine zi ?_|refine zo ?_|refine zp ?_|refine zq ?_|refine zr ?_|refine zs ?_)
      refine r_orN (m := all) (n := s) (r := al) rfl rfl (by omega) (by omega) hal ?_
      repeat' (first|refine za ?_|refine zA ?_|refine zB ?_|refine zb ?_|refine zc ?_|refine ze ?_|refine zd ?_|refine zC ?_|refine zD ?_|refine zE ?_|refine zF ?_|refine zG ?_|refine zH ?_|refine zI ?_|refine zJ ?_|refine zK ?_|refine zL ?_|refine zM ?_|refine zN ?_|refine zO ?_|refine zP ?_|refine zQ ?_|refine zR ?_|refine zS ?_|refine zU ?_|refine zV ?_|refine zW ?_|refine zt (fun hcd => ?_) (fun hcd => ?_)|refine zu (fun hcd => ?_) (fun hcd => ?_)|refine zX ?_|refine zY ?_|refine zv (fun hcd => ?_) (fun hcd => ?_)|refine zk ?_|refine zl ?_|refine zm ?_|refine zn ?_|refine zf ?_|refine zg ?_|refine zj ?_|refine zZ ?_|refine zh ?_|refine zi ?_|refine zo ?_|refine zp ?_|refine zq ?_|refine zr ?_|refine zs ?_)
      exact ⟨s + 1, t', best, size, al, ⟨rfl, rfl, rfl, rfl, rfl, trivial⟩, ⟨by omega, ⟨ht, by omega, by omega⟩, hB', hrow, hC8⟩, by omega⟩
    · have hB' := blt (by omega)
      repeat' (first|refine za ?_|refine zA ?_|refine zB ?_|refine zb ?_|refine zc ?_|refine ze ?_|refine zd ?_|refine zC ?_|refine zD ?_|refine zE ?_|refine zF ?_|refine zG ?_|refine zH ?_|refine zI ?_|refine zJ ?_|refine zK ?_|refine zL ?_|refine zM ?_|refine zN ?_|refine zO ?_|refine zP ?_|refine zQ ?_|refine zR ?_|refine zS ?_|refine zU ?_|refine zV ?_|refine zW ?_|refine zt (fun hcd => ?_) (fun hcd => ?_)|refine zu (fun hcd => ?_) (fun hcd => ?_)|refine zX ?_|refine zY ?_|refine zv (fun hcd => ?_) (fun hcd => ?_)|refine zk ?_|refine zl ?_|refine zm ?_|refine zn ?_|refine zf ?_|refine zg ?_|refine zj ?_|refine zZ ?_|refine zh ?_|refine zi ?_|refine zo ?_|refine zp ?_|refine zq ?_|refine zr ?_|refine zs ?_)
      exact ⟨s + 1, t', best, size, all, ⟨rfl, rfl, rfl, rfl, rfl, trivial⟩, ⟨by omega, ⟨ht, by omega, by omega⟩, hB', hrow, hC8⟩, by omega⟩
end Go.Proofs.Ytibegggcinonkaa
