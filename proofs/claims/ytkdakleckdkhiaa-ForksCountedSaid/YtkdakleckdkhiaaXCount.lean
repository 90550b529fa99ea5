/- The law ForksCounted: Item goes through all trees in ascending order; the pairs of them in the order are Pairs(n). -/
import Derived.Test.YtkdakleckdkhiaaOk2
import Derived.Test.YtkdakleckdkhiaaPCo
namespace Go.Proofs.Ytkdakleckdkhiaa
namespace Gv
theorem r_sgeq_f {P : Program} {st : Bool} {K : Env → World → Prop} {ρ : Env} {w : World} {d : Nat} {t t2 ty : TypeId} {pos : String} {aft : Array Edge} {gd : Option (Nat × Bool)} {x y : Operand} {a b : List UInt8}
    (hx : ev ρ x = str a) (hy : ev ρ y = str b) (hab : a < b) (h : K (up ρ d (.bool false)) w) : w1 P st ⟨some d, .binOp .geq t x y t2, ty, pos, aft, gd⟩ K ρ w :=
  w1_val (v := .bool false) (by simp [execOp, hx, hy, eqGuard, binOp, Op.stringOp, bytesLess_eq, hab]) h
end Gv
open Gv
theorem cnt_tb : ∀ m, m < 6 → ((cntP ((tb m).getD m []) ((tb m).getD m []) : Nat) : Int) = pairsF m := by decide +kernel
theorem Belowb_ok (x y : T) (b : Bool) (w : World) (h : x.size ≤ 10) (hs : y.size = x.size) (hb : decide (x.le y) = b) : Calls Try.prog 37 #[str x.text, str y.text] w (Ret fun v w' => v = .tuple #[.bool b, .int .i64 0] ∧ Ext w w') := by
  subst hb; exact Below_ok x y w h hs
set_option maxRecDepth 20000 in
set_option maxHeartbeats 8000000 in
theorem counted_law (n : Int) (w : World) : Calls Try.prog 14 #[.int .i64 n] w fun e w' => ∃ v, e = .returned v ∧ v = .bool true ∧ Ext w w' := by
  have hb := mod_bnd n (n := 6) (by omega)
  obtain ⟨m, hm⟩ : ∃ k : Nat, IntKind.u64.wrap n % 6 = k := ⟨(IntKind.u64.wrap n % 6).toNat, by omega⟩
  have hm6 : m < 6 := by omega
  have hal := allS_len5 hm6
  obtain ⟨ts, hts, hsz, hnd, hmem⟩ := allT m
  have hcnt := cntP_perm (allT_perm hm6 hnd hmem)
  have hcn2 := cnt_tb m hm6
  rw [← hcnt] at hcn2
  have hltS : ∀ i, 0 < i → i < (allS m).length → (allS m).getD (i - 1) [] < (allS m).getD i [] := fun i h0 hi =>
    allS_lt (n := m) (i := i - 1) (j := i) (by omega) (by simp [List.getD, show i - 1 < (allS m).length by omega]) (by simp [List.getD, hi])
  have hit : ∀ (i : Nat) (w : World), i < (allS m).length → Calls Try.prog 41 #[.int .i64 (m : Int), .int .i64 (i : Int)] w (Ret fun v w' => v = .tuple #[str ((allS m).getD i []), .int .i64 0] ∧ Ext w w') := fun i w hi =>
    Ret.mono (Item_any m i w) fun v w' ⟨hE, hv⟩ => by
      rcases hv with ⟨m', j, e1, _, e2, _, rfl⟩ | ⟨hno, _⟩
      · obtain rfl : m = m' := by omega
        obtain rfl : i = j := by omega
        exact ⟨rfl, hE⟩
      · exact (hno ⟨m, i, rfl, by omega, rfl, hi⟩).elim
  have hend : ∀ (i : Nat) (w : World), i = (allS m).length → Calls Try.prog 41 #[.int .i64 (m : Int), .int .i64 (i : Int)] w (Ret fun v w' => v = .tuple #[str [], .int .i64 2] ∧ Ext w w') := fun i w hi =>
    Ret.mono (Item_any m i w) fun v w' ⟨hE, hv⟩ => by
      rcases hv with ⟨m', j, e1, _, e2, h, rfl⟩ | ⟨_, rfl⟩
      · obtain rfl : m = m' := by omega
        omega
      · exact ⟨rfl, hE⟩
  have hpr : ∀ w : World, Calls Try.prog 42 #[.int .i64 (m : Int)] w (Ret fun v w' => v = .tuple #[.int .i64 (pairsF m), .int .i64 0] ∧ w' = w) := fun w =>
    Ret.mono (Pairs_any m w) fun v w' ⟨hw, hv⟩ => by
      rcases hv with ⟨k, h1, _, rfl⟩ | ⟨h, _⟩
      · obtain rfl : m = k := by omega
        exact ⟨rfl, hw⟩
      · exact absurd ⟨by omega, by omega⟩ h
  generalize pairsF m = pf at *
  obtain ⟨L, hL⟩ : ∃ L, L = allS m := ⟨_, rfl⟩
  rw [← hL] at hal hts hltS hit hend
  have hlen : ts.length = L.length := by rw [← hts, List.length_map]
  have hget : ∀ i, i < L.length → L.getD i [] = (ts.getD i .lf).text := fun i hi => by rw [← hts]; exact getD_text (by omega)
  have hszi : ∀ i, i < L.length → (ts.getD i .lf).size = m := fun i hi => hsz _ (getD_mem (by omega))
  refine calls_of_wc (args := [.int .i64 n]) Try.func14 rfl ?_ ?_; kernel_rfl
  repeat' (first|refine za ?_|refine zA ?_|refine zB ?_|refine zb ?_|refine zc ?_|refine ze ?_|refine zd ?_|refine zC ?_|refine zD ?_|refine zE ?_|refine zF ?_|refine zG ?_|refine zH ?_|refine zI ?_|refine zJ ?_|refine zK ?_|refine zL ?_|refine zM ?_|refine zN ?_|refine zO ?_|refine zP ?_|refine zQ ?_|refine zR ?_|refine zS ?_|refine zU ?_|refine zV ?_|refine zW ?_|refine zt (fun hcd => ?_) (fun hcd => ?_)|refine zu (fun hcd => ?_) (fun hcd => ?_)|refine zX ?_|refine zY ?_|refine zv (fun hcd => ?_) (fun hcd => ?_)|refine zk ?_|refine zl ?_|refine zm ?_|refine zn ?_|refine zf ?_|refine zg ?_|refine zj ?_|refine zZ ?_|refine zh ?_|refine zi ?_|refine zo ?_|refine zp ?_|refine zq ?_|refine zr ?_|refine zs ?_)
  (refine r_call_q (v := ?_) rfl ?_ ?_; rotate_left 1; focus exact mod_any n 6 m w (by omega) hm)
  repeat' (first|refine za ?_|refine zA ?_|refine zB ?_|refine zb ?_|refine zc ?_|refine ze ?_|refine zd ?_|refine zC ?_|refine zD ?_|refine zE ?_|refine zF ?_|refine zG ?_|refine zH ?_|refine zI ?_|refine zJ ?_|refine zK ?_|refine zL ?_|refine zM ?_|refine zN ?_|refine zO ?_|refine zP ?_|refine zQ ?_|refine zR ?_|refine zS ?_|refine zU ?_|refine zV ?_|refine zW ?_|refine zt (fun hcd => ?_) (fun hcd => ?_)|refine zu (fun hcd => ?_) (fun hcd => ?_)|refine zX ?_|refine zY ?_|refine zv (fun hcd => ?_) (fun hcd => ?_)|refine zk ?_|refine zl ?_|refine zm ?_|refine zn ?_|refine zf ?_|refine zg ?_|refine zj ?_|refine zZ ?_|refine zh ?_|refine zi ?_|refine zo ?_|refine zp ?_|refine zq ?_|refine zr ?_|refine zs ?_)
  refine wc_loop2 [0] (fun (i : Nat) (vo : Value) => [(4, .int .i64 i), (3, vo)]) (fun i vo wk => i ≤ L.length ∧ Ext w wk ∧ OwnS wk w.heap.size vo (L.take i)) (fun i _ => L.length - i) 0 (.slice none 0 0) rfl ⟨rfl, rfl, trivial⟩ ⟨by omega, Ext.refl _, World.ownsRow_nil _ _ _ _⟩ ?_
  rintro i vo wk x ⟨hi, hE, hO⟩
  obtain ⟨X, hX⟩ : ∃ X, X = L.take i := ⟨_, rfl⟩
  rw [← hX] at hO
  have hXl : X.length = i := by rw [hX, List.length_take]; omega
  obtain ⟨qx, cx, ex, _⟩ := hO.strs.slice
  subst ex
  by_cases hiL : i < L.length
  · repeat' (first|refine za ?_|refine zA ?_|refine zB ?_|refine zb ?_|refine zc ?_|refine ze ?_|refine zd ?_|refine zC ?_|refine zD ?_|refine zE ?_|refine zF ?_|refine zG ?_|refine zH ?_|refine zI ?_|refine zJ ?_|refine zK ?_|refine zL ?_|refine zM ?_|refine zN ?_|refine zO ?_|refine zP ?_|refine zQ ?_|refine zR ?_|refine zS ?_|refine zU ?_|refine zV ?_|refine zW ?_|refine zt (fun hcd => ?_) (fun hcd => ?_)|refine zu (fun hcd => ?_) (fun hcd => ?_)|refine zX ?_|refine zY ?_|refine zv (fun hcd => ?_) (fun hcd => ?_)|refine zk ?_|refine zl ?_|refine zm ?_|refine zn ?_|refine zf ?_|refine zg ?_|refine zj ?_|refine zZ ?_|refine zh ?_|refine zi ?_|refine zo ?_|refine zp ?_|refine zq ?_|refine zr ?_|refine zs ?_)
    (refine r_call (R := ?_) rfl ?_ ?_; rotate_left 1; focus exact hit i wk hiL)
    rintro v1 w1 ⟨rfl, hE1⟩
    have hO1 : OwnS w1 w.heap.size (.slice qx X.length cx) X := OwnS.ext hO hE1
    have hfin : ∀ (v' : Value) (w' : World), Gv.Own w' w.heap.size 9 v' (strs X ++ [str (L.getD i [])]) → w1.grownBy w' (Value.slice qx X.length cx).ownBlock → Ext w w' ∧ OwnS w' w.heap.size v' (L.take (i + 1)) := fun v' w' h1 h2 => by
      refine ⟨Ch.ext_new (hE.trans hE1) (Ch.grown h2 fun g hg => (World.ownsRow.lt hO1 g hg).1) (Nat.le_refl _), OwnS.of ?_⟩
      rw [take_getD hiL, ← hX, strs, List.map_append]
      exact h1
    by_cases h0 : i = 0
    · generalize L.getD i [] = s at *
      repeat' (first|refine za ?_|refine zA ?_|refine zB ?_|refine zb ?_|refine zc ?_|refine ze ?_|refine zd ?_|refine zC ?_|refine zD ?_|refine zE ?_|refine zF ?_|refine zG ?_|refine zH ?_|refine zI ?_|refine zJ ?_|refine zK ?_|refine zL ?_|refine zM ?_|refine zN ?_|refine zO ?_|refine zP ?_|refine zQ ?_|refine zR ?_|refine zS ?_|refine zU ?_|refine zV ?_|refine zW ?_|refine zt (fun hcd => ?_) (fun hcd => ?_)|refine zu (fun hcd => ?_) (fun hcd => ?_)|refine zX ?_|refine zY ?_|refine zv (fun hcd => ?_) (fun hcd => ?_)|refine zk ?_|refine zl ?_|refine zm ?_|refine zn ?_|refine zf ?_|refine zg ?_|refine zj ?_|refine zZ ?_|refine zh ?_|refine zi ?_|refine zo ?_|refine zp ?_|refine zq ?_|refine zr ?_|refine zs ?_)
      refine r_append1_v (u := str s) el32 rfl (by decide) hO1.own rfl rfl rfl (by simp; omega) (hE.trans hE1).size fun v' w' q h1 h2 h3 h4 => ?_
      obtain ⟨e1, e2⟩ := hfin v' w' h1 h2
      repeat' (first|refine za ?_|refine zA ?_|refine zB ?_|refine zb ?_|refine zc ?_|refine ze ?_|refine zd ?_|refine zC ?_|refine zD ?_|refine zE ?_|refine zF ?_|refine zG ?_|refine zH ?_|refine zI ?_|refine zJ ?_|refine zK ?_|refine zL ?_|refine zM ?_|refine zN ?_|refine zO ?_|refine zP ?_|refine zQ ?_|refine zR ?_|refine zS ?_|refine zU ?_|refine zV ?_|refine zW ?_|refine zt (fun hcd => ?_) (fun hcd => ?_)|refine zu (fun hcd => ?_) (fun hcd => ?_)|refine zX ?_|refine zY ?_|refine zv (fun hcd => ?_) (fun hcd => ?_)|refine zk ?_|refine zl ?_|refine zm ?_|refine zn ?_|refine zf ?_|refine zg ?_|refine zj ?_|refine zZ ?_|refine zh ?_|refine zi ?_|refine zo ?_|refine zp ?_|refine zq ?_|refine zr ?_|refine zs ?_)
      exact ⟨i + 1, v', ⟨rfl, rfl, trivial⟩, ⟨by omega, e1, e2⟩, by omega⟩
    · have hlt := hltS i (by omega) hiL
      have hps := hO1.strs.isSome (by omega)
      have hrd := strs_get0 hO1.strs (i := i - 1) (by omega) (j := (i : Int) - 1) (by omega)
      have hxe : X.getD (i - 1) [] = L.getD (i - 1) [] := by
        rw [hX]; simp only [List.getD_eq_getElem?_getD]; rw [List.getElem?_take, if_pos (by omega)]
      rw [hxe] at hrd
      generalize L.getD i [] = s at *
      generalize L.getD (i - 1) [] = s' at *
      repeat' (first|refine za ?_|refine zA ?_|refine zB ?_|refine zb ?_|refine zc ?_|refine ze ?_|refine zd ?_|refine zC ?_|refine zD ?_|refine zE ?_|refine zF ?_|refine zG ?_|refine zH ?_|refine zI ?_|refine zJ ?_|refine zK ?_|refine zL ?_|refine zM ?_|refine zN ?_|refine zO ?_|refine zP ?_|refine zQ ?_|refine zR ?_|refine zS ?_|refine zU ?_|refine zV ?_|refine zW ?_|refine zt (fun hcd => ?_) (fun hcd => ?_)|refine zu (fun hcd => ?_) (fun hcd => ?_)|refine zX ?_|refine zY ?_|refine zv (fun hcd => ?_) (fun hcd => ?_)|refine zk ?_|refine zl ?_|refine zm ?_|refine zn ?_|refine zf ?_|refine zg ?_|refine zj ?_|refine zZ ?_|refine zh ?_|refine zi ?_|refine zo ?_|refine zp ?_|refine zq ?_|refine zr ?_|refine zs ?_)
      refine r_sgeq_f (a := s') (b := s) rfl rfl hlt ?_
      repeat' (first|refine za ?_|refine zA ?_|refine zB ?_|refine zb ?_|refine zc ?_|refine ze ?_|refine zd ?_|refine zC ?_|refine zD ?_|refine zE ?_|refine zF ?_|refine zG ?_|refine zH ?_|refine zI ?_|refine zJ ?_|refine zK ?_|refine zL ?_|refine zM ?_|refine zN ?_|refine zO ?_|refine zP ?_|refine zQ ?_|refine zR ?_|refine zS ?_|refine zU ?_|refine zV ?_|refine zW ?_|refine zt (fun hcd => ?_) (fun hcd => ?_)|refine zu (fun hcd => ?_) (fun hcd => ?_)|refine zX ?_|refine zY ?_|refine zv (fun hcd => ?_) (fun hcd => ?_)|refine zk ?_|refine zl ?_|refine zm ?_|refine zn ?_|refine zf ?_|refine zg ?_|refine zj ?_|refine zZ ?_|refine zh ?_|refine zi ?_|refine zo ?_|refine zp ?_|refine zq ?_|refine zr ?_|refine zs ?_)
      refine r_append1_v (u := str s) el32 rfl (by decide) hO1.own rfl rfl rfl (by simp; omega) (hE.trans hE1).size fun v' w' q h1 h2 h3 h4 => ?_
      obtain ⟨e1, e2⟩ := hfin v' w' h1 h2
      repeat' (first|refine za ?_|refine zA ?_|refine zB ?_|refine zb ?_|refine zc ?_|refine ze ?_|refine zd ?_|refine zC ?_|refine zD ?_|refine zE ?_|refine zF ?_|refine zG ?_|refine zH ?_|refine zI ?_|refine zJ ?_|refine zK ?_|refine zL ?_|refine zM ?_|refine zN ?_|refine zO ?_|refine zP ?_|refine zQ ?_|refine zR ?_|refine zS ?_|refine zU ?_|refine zV ?_|refine zW ?_|refine zt (fun hcd => ?_) (fun hcd => ?_)|refine zu (fun hcd => ?_) (fun hcd => ?_)|refine zX ?_|refine zY ?_|refine zv (fun hcd => ?_) (fun hcd => ?_)|refine zk ?_|refine zl ?_|refine zm ?_|refine zn ?_|refine zf ?_|refine zg ?_|refine zj ?_|refine zZ ?_|refine zh ?_|refine zi ?_|refine zo ?_|refine zp ?_|refine zq ?_|refine zr ?_|refine zs ?_)
      exact ⟨i + 1, v', ⟨rfl, rfl, trivial⟩, ⟨by omega, e1, e2⟩, by omega⟩
  obtain rfl : i = L.length := by omega
  rw [List.take_length] at hX
  subst hX
  repeat' (first|refine za ?_|refine zA ?_|refine zB ?_|refine zb ?_|refine zc ?_|refine ze ?_|refine zd ?_|refine zC ?_|refine zD ?_|refine zE ?_|refine zF ?_|refine zG ?_|refine zH ?_|refine zI ?_|refine zJ ?_|refine zK ?_|refine zL ?_|refine zM ?_|refine zN ?_|refine zO ?_|refine zP ?_|refine zQ ?_|refine zR ?_|refine zS ?_|refine zU ?_|refine zV ?_|refine zW ?_|refine zt (fun hcd => ?_) (fun hcd => ?_)|refine zu (fun hcd => ?_) (fun hcd => ?_)|refine zX ?_|refine zY ?_|refine zv (fun hcd => ?_) (fun hcd => ?_)|refine zk ?_|refine zl ?_|refine zm ?_|refine zn ?_|refine zf ?_|refine zg ?_|refine zj ?_|refine zZ ?_|refine zh ?_|refine zi ?_|refine zo ?_|refine zp ?_|refine zq ?_|refine zr ?_|refine zs ?_)
  (refine r_call (R := ?_) rfl ?_ ?_; rotate_left 1; focus exact hend _ wk rfl)
  rintro v1 w1 ⟨rfl, hE1⟩
  have hS1 : Strs w1 (.slice qx X.length cx) X := (OwnS.ext hO hE1).strs
  have hE01 := hE.trans hE1
  repeat' (first|refine za ?_|refine zA ?_|refine zB ?_|refine zb ?_|refine zc ?_|refine ze ?_|refine zd ?_|refine zC ?_|refine zD ?_|refine zE ?_|refine zF ?_|refine zG ?_|refine zH ?_|refine zI ?_|refine zJ ?_|refine zK ?_|refine zL ?_|refine zM ?_|refine zN ?_|refine zO ?_|refine zP ?_|refine zQ ?_|refine zR ?_|refine zS ?_|refine zU ?_|refine zV ?_|refine zW ?_|refine zt (fun hcd => ?_) (fun hcd => ?_)|refine zu (fun hcd => ?_) (fun hcd => ?_)|refine zX ?_|refine zY ?_|refine zv (fun hcd => ?_) (fun hcd => ?_)|refine zk ?_|refine zl ?_|refine zm ?_|refine zn ?_|refine zf ?_|refine zg ?_|refine zj ?_|refine zZ ?_|refine zh ?_|refine zi ?_|refine zo ?_|refine zp ?_|refine zq ?_|refine zr ?_|refine zs ?_)
  refine wc_loop2 [0, 3] (fun (i : Nat) (c : Nat) => [(8, .int .i64 i), (7, .int .i64 c)]) (fun i c wk => i ≤ X.length ∧ Ext w1 wk ∧ c = cntP (ts.take i) ts ∧ c ≤ 42 * i) (fun i _ => X.length - i) 0 0 rfl ⟨rfl, rfl, trivial⟩ ⟨by omega, Ext.refl _, by simp [cntP], by omega⟩ ?_
  rintro i c wi x2 ⟨hi, hEi, hc, hcb⟩
  by_cases hiX : i < X.length
  · repeat' (first|refine za ?_|refine zA ?_|refine zB ?_|refine zb ?_|refine zc ?_|refine ze ?_|refine zd ?_|refine zC ?_|refine zD ?_|refine zE ?_|refine zF ?_|refine zG ?_|refine zH ?_|refine zI ?_|refine zJ ?_|refine zK ?_|refine zL ?_|refine zM ?_|refine zN ?_|refine zO ?_|refine zP ?_|refine zQ ?_|refine zR ?_|refine zS ?_|refine zU ?_|refine zV ?_|refine zW ?_|refine zt (fun hcd => ?_) (fun hcd => ?_)|refine zu (fun hcd => ?_) (fun hcd => ?_)|refine zX ?_|refine zY ?_|refine zv (fun hcd => ?_) (fun hcd => ?_)|refine zk ?_|refine zl ?_|refine zm ?_|refine zn ?_|refine zf ?_|refine zg ?_|refine zj ?_|refine zZ ?_|refine zh ?_|refine zi ?_|refine zo ?_|refine zp ?_|refine zq ?_|refine zr ?_|refine zs ?_)
    refine wc_loop2 [0, 3, 8] (fun (j : Nat) (c : Nat) => [(9, .int .i64 j), (7, .int .i64 c)]) (fun j c' wk => j ≤ X.length ∧ Ext w1 wk ∧ c' = c + (ts.take j).countP (fun b => decide ((ts.getD i .lf).le b)) ∧ c' ≤ 42 * i + j) (fun j _ => X.length - j) 0 c rfl ⟨rfl, rfl, trivial⟩ ⟨by omega, hEi, by simp, by omega⟩ ?_
    rintro j c' wj x3 ⟨hj, hEj, hc', hcb'⟩
    by_cases hjX : j < X.length
    · have hEd := hEj.trans (Ext.drew wj)
      have hps := hS1.isSome (by omega)
      have hri := strs_get0 (hS1.ext hEd) hiX (j := (i : Int)) rfl
      have hrj := strs_get0 (hS1.ext hEd) hjX (j := (j : Int)) rfl
      have hct := countP_take (us := ts) (p := fun b => decide ((ts.getD i .lf).le b)) (by omega : j < ts.length)
      rw [hget i hiX] at hri
      rw [hget j hjX] at hrj
      have hsi := hszi i hiX
      have hsj := hszi j hjX
      have hri' : ∀ w', Ext wj.drew w' → _ := fun w' hw' => rd_ext hri hw'
      have hrj' : ∀ w', Ext wj.drew w' → _ := fun w' hw' => rd_ext hrj hw'
      obtain ⟨p, hp⟩ : ∃ p : T → Bool, p = fun b => decide ((ts.getD i .lf).le b) := ⟨_, rfl⟩
      rw [← hp] at hc' hct ⊢
      generalize ts.getD i .lf = a at *
      generalize ts.getD j .lf = b at *
      obtain ⟨bb, hbb⟩ : ∃ bb, decide (a.le b) = bb := ⟨_, rfl⟩
      rw [hbb] at hct
      repeat' (first|refine za ?_|refine zA ?_|refine zB ?_|refine zb ?_|refine zc ?_|refine ze ?_|refine zd ?_|refine zC ?_|refine zD ?_|refine zE ?_|refine zF ?_|refine zG ?_|refine zH ?_|refine zI ?_|refine zJ ?_|refine zK ?_|refine zL ?_|refine zM ?_|refine zN ?_|refine zO ?_|refine zP ?_|refine zQ ?_|refine zR ?_|refine zS ?_|refine zU ?_|refine zV ?_|refine zW ?_|refine zt (fun hcd => ?_) (fun hcd => ?_)|refine zu (fun hcd => ?_) (fun hcd => ?_)|refine zX ?_|refine zY ?_|refine zv (fun hcd => ?_) (fun hcd => ?_)|refine zk ?_|refine zl ?_|refine zm ?_|refine zn ?_|refine zf ?_|refine zg ?_|refine zj ?_|refine zZ ?_|refine zh ?_|refine zi ?_|refine zo ?_|refine zp ?_|refine zq ?_|refine zr ?_|refine zs ?_)
      refine wc_heldB (fun w' => Ext wj.drew w') (.take 0 (.take 1 (.take 2 (.take 3 (.take 4 (.take 5 (.take 6 (.take 7 (.one 8 (.take 9 (.take 10 (.take 11 (.one 12 (.one 13 .done)))))))))))))) (by kernel_rfl) (by kernel_rfl) (Ext.refl _) ?_
      refine whB_take (v := .slice qx X.length cx) rfl rfl (fun w' hw' => rv_move_v rfl) ?_
      refine whB_take (v := .int .i64 i) rfl rfl (fun w' hw' => rv_move_v rfl) ?_
      refine whB_take rfl rfl (fun w' hw' => rv_idx (sz := 1) rfl rfl rfl hps (by omega) (by omega)) ?_
      refine whB_take (v := str a.text) rfl rfl (fun w' hw' => rv_ld rfl rfl (hri' w' hw')) ?_
      refine whB_take (v := .slice qx X.length cx) rfl rfl (fun w' hw' => rv_move_v rfl) ?_
      refine whB_take (v := .int .i64 j) rfl rfl (fun w' hw' => rv_move_v rfl) ?_
      refine whB_take rfl rfl (fun w' hw' => rv_idx (sz := 1) rfl rfl rfl hps (by omega) (by omega)) ?_
      refine whB_take (v := str b.text) rfl rfl (fun w' hw' => rv_ld rfl rfl (hrj' w' hw')) ?_
      refine whB_one rfl rfl ?_
      (refine r_call (R := ?_) rfl ?_ ?_; rotate_left 1; focus exact Belowb_ok a b bb wj.drew (by omega) (by omega) hbb)
      rintro v2 w2 ⟨rfl, hE2⟩
      refine ⟨hE2, ?_⟩
      refine whB_take (v := .tuple #[.bool bb, .int .i64 0]) rfl rfl (fun w' hw' => rv_move_v rfl) ?_
      refine whB_take (v := .bool bb) rfl rfl (fun w' hw' => rv_of rfl (fun _ h => r_ext rfl rfl h) fun _ _ h => val_of h) ?_
      refine whB_take (v := .int .i64 0) rfl rfl (fun w' hw' => rv_of rfl (fun _ h => r_ext rfl rfl h) fun _ _ h => val_of h) ?_
      refine whB_one rfl rfl ?_
      refine r_assign_v (v := .bool bb) rfl ?_
      refine ⟨hE2, ?_⟩
      refine whB_one rfl rfl ?_
      refine r_assign_v (v := .int .i64 0) rfl ?_
      refine ⟨hE2, whB_done ?_⟩
      have hEn := hEd.trans hE2
      cases bb with
      | true =>
        repeat' (first|refine za ?_|refine zA ?_|refine zB ?_|refine zb ?_|refine zc ?_|refine ze ?_|refine zd ?_|refine zC ?_|refine zD ?_|refine zE ?_|refine zF ?_|refine zG ?_|refine zH ?_|refine zI ?_|refine zJ ?_|refine zK ?_|refine zL ?_|refine zM ?_|refine zN ?_|refine zO ?_|refine zP ?_|refine zQ ?_|refine zR ?_|refine zS ?_|refine zU ?_|refine zV ?_|refine zW ?_|refine zt (fun hcd => ?_) (fun hcd => ?_)|refine zu (fun hcd => ?_) (fun hcd => ?_)|refine zX ?_|refine zY ?_|refine zv (fun hcd => ?_) (fun hcd => ?_)|refine zk ?_|refine zl ?_|refine zm ?_|refine zn ?_|refine zf ?_|refine zg ?_|refine zj ?_|refine zZ ?_|refine zh ?_|refine zi ?_|refine zo ?_|refine zp ?_|refine zq ?_|refine zr ?_|refine zs ?_)
        refine ⟨j + 1, c' + 1, ⟨rfl, ?_, trivial⟩, ⟨by omega, hEn, ?_, by omega⟩, by omega⟩
        · show Value.int .i64 _ = Value.int .i64 _
          congr 1
        · rw [hct, hc']; simp; omega
      | false =>
        repeat' (first|refine za ?_|refine zA ?_|refine zB ?_|refine zb ?_|refine zc ?_|refine ze ?_|refine zd ?_|refine zC ?_|refine zD ?_|refine zE ?_|refine zF ?_|refine zG ?_|refine zH ?_|refine zI ?_|refine zJ ?_|refine zK ?_|refine zL ?_|refine zM ?_|refine zN ?_|refine zO ?_|refine zP ?_|refine zQ ?_|refine zR ?_|refine zS ?_|refine zU ?_|refine zV ?_|refine zW ?_|refine zt (fun hcd => ?_) (fun hcd => ?_)|refine zu (fun hcd => ?_) (fun hcd => ?_)|refine zX ?_|refine zY ?_|refine zv (fun hcd => ?_) (fun hcd => ?_)|refine zk ?_|refine zl ?_|refine zm ?_|refine zn ?_|refine zf ?_|refine zg ?_|refine zj ?_|refine zZ ?_|refine zh ?_|refine zi ?_|refine zo ?_|refine zp ?_|refine zq ?_|refine zr ?_|refine zs ?_)
        refine ⟨j + 1, c', ⟨rfl, rfl, trivial⟩, ⟨by omega, hEn, ?_, by omega⟩, by omega⟩
        rw [hct, hc']; simp
    · obtain rfl : j = X.length := by omega
      rw [List.take_of_length_le (by omega)] at hc'
      have hcs := cntP_take (us := ts) (by omega : i < ts.length)
      repeat' (first|refine za ?_|refine zA ?_|refine zB ?_|refine zb ?_|refine zc ?_|refine ze ?_|refine zd ?_|refine zC ?_|refine zD ?_|refine zE ?_|refine zF ?_|refine zG ?_|refine zH ?_|refine zI ?_|refine zJ ?_|refine zK ?_|refine zL ?_|refine zM ?_|refine zN ?_|refine zO ?_|refine zP ?_|refine zQ ?_|refine zR ?_|refine zS ?_|refine zU ?_|refine zV ?_|refine zW ?_|refine zt (fun hcd => ?_) (fun hcd => ?_)|refine zu (fun hcd => ?_) (fun hcd => ?_)|refine zX ?_|refine zY ?_|refine zv (fun hcd => ?_) (fun hcd => ?_)|refine zk ?_|refine zl ?_|refine zm ?_|refine zn ?_|refine zf ?_|refine zg ?_|refine zj ?_|refine zZ ?_|refine zh ?_|refine zi ?_|refine zo ?_|refine zp ?_|refine zq ?_|refine zr ?_|refine zs ?_)
      refine ⟨i + 1, c', ⟨rfl, rfl, trivial⟩, ⟨by omega, hEj, by rw [hcs, ← hc]; exact hc', by omega⟩, by omega⟩
  · obtain rfl : i = X.length := by omega
    rw [List.take_of_length_le (by omega)] at hc
    rw [← hc] at hcn2
    subst hcn2
    repeat' (first|refine za ?_|refine zA ?_|refine zB ?_|refine zb ?_|refine zc ?_|refine ze ?_|refine zd ?_|refine zC ?_|refine zD ?_|refine zE ?_|refine zF ?_|refine zG ?_|refine zH ?_|refine zI ?_|refine zJ ?_|refine zK ?_|refine zL ?_|refine zM ?_|refine zN ?_|refine zO ?_|refine zP ?_|refine zQ ?_|refine zR ?_|refine zS ?_|refine zU ?_|refine zV ?_|refine zW ?_|refine zt (fun hcd => ?_) (fun hcd => ?_)|refine zu (fun hcd => ?_) (fun hcd => ?_)|refine zX ?_|refine zY ?_|refine zv (fun hcd => ?_) (fun hcd => ?_)|refine zk ?_|refine zl ?_|refine zm ?_|refine zn ?_|refine zf ?_|refine zg ?_|refine zj ?_|refine zZ ?_|refine zh ?_|refine zi ?_|refine zo ?_|refine zp ?_|refine zq ?_|refine zr ?_|refine zs ?_)
    (refine r_call_q (v := ?_) rfl ?_ ?_; rotate_left 1; focus exact hpr wi)
    repeat' (first|refine za ?_|refine zA ?_|refine zB ?_|refine zb ?_|refine zc ?_|refine ze ?_|refine zd ?_|refine zC ?_|refine zD ?_|refine zE ?_|refine zF ?_|refine zG ?_|refine zH ?_|refine zI ?_|refine zJ ?_|refine zK ?_|refine zL ?_|refine zM ?_|refine zN ?_|refine zO ?_|refine zP ?_|refine zQ ?_|refine zR ?_|refine zS ?_|refine zU ?_|refine zV ?_|refine zW ?_|refine zt (fun hcd => ?_) (fun hcd => ?_)|refine zu (fun hcd => ?_) (fun hcd => ?_)|refine zX ?_|refine zY ?_|refine zv (fun hcd => ?_) (fun hcd => ?_)|refine zk ?_|refine zl ?_|refine zm ?_|refine zn ?_|refine zf ?_|refine zg ?_|refine zj ?_|refine zZ ?_|refine zh ?_|refine zi ?_|refine zo ?_|refine zp ?_|refine zq ?_|refine zr ?_|refine zs ?_)
    ((refine r_call (R := ?_) rfl ?_ ?_; rotate_left 1; focus exact awake_any _); rintro vz wz ⟨rfl, hEz⟩)
    repeat' (first|refine za ?_|refine zA ?_|refine zB ?_|refine zb ?_|refine zc ?_|refine ze ?_|refine zd ?_|refine zC ?_|refine zD ?_|refine zE ?_|refine zF ?_|refine zG ?_|refine zH ?_|refine zI ?_|refine zJ ?_|refine zK ?_|refine zL ?_|refine zM ?_|refine zN ?_|refine zO ?_|refine zP ?_|refine zQ ?_|refine zR ?_|refine zS ?_|refine zU ?_|refine zV ?_|refine zW ?_|refine zt (fun hcd => ?_) (fun hcd => ?_)|refine zu (fun hcd => ?_) (fun hcd => ?_)|refine zX ?_|refine zY ?_|refine zv (fun hcd => ?_) (fun hcd => ?_)|refine zk ?_|refine zl ?_|refine zm ?_|refine zn ?_|refine zf ?_|refine zg ?_|refine zj ?_|refine zZ ?_|refine zh ?_|refine zi ?_|refine zo ?_|refine zp ?_|refine zq ?_|refine zr ?_|refine zs ?_)
    refine post1 (v := .bool true) rfl rfl ?_
    exact ⟨rfl, hE01.trans (hEi.trans hEz)⟩
end Go.Proofs.Ytkdakleckdkhiaa
