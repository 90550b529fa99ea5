/- TopCayley: powers, and determinants of squares with one number on the diagonal and another one beside it; TopCayley: the determinant, walked; TopCayley: the sums of the streets, the number of the trees modulo a prime. -/
import Derived.Test.YtocgehoffdjijaaGreatSB
import Derived.Test.YtocgehoffdjijaaGreatOb
import Derived.Test.YtocgehoffdjijaaGreatSC
/- TopCayley: powers, and determinants of squares with one number on the diagonal and another one beside it. -/
namespace Go.Proofs.YtocgehoffdjijaaGreat
open Gv
set_option maxRecDepth 20000
def pwG : Nat → Nat → Nat → Nat → Nat → Nat
  | 0, _, _, _, o => o
  | f + 1, a, n, p, o => if n = 0 then o else pwG f (a * a % p) (n / 2) p (if n % 2 = 1 then o * a % p else o)
def pwF (a n p : Nat) : Nat := pwG 31 a n p 1
theorem pwG_lt : ∀ (f a n p o : Nat), 0 < p → o < p → pwG f a n p o < p
  | 0, _, _, _, _, _, h => h
  | f + 1, a, n, p, o, hp, h => by
    simp only [pwG]
    split
    · exact h
    · refine pwG_lt f _ _ p _ hp ?_
      split
      · exact Nat.mod_lt _ hp
      · exact h
set_option maxHeartbeats 1000000 in
theorem power_val (a n p : Nat) (w : World) (ha : a < 2147483648) (hp : 2 ≤ p ∧ p < 2147483648) (hn : n < 2147483648) :
    Calls Tryz.prog 62 #[.int .i64 (a : Int), .int .i64 (n : Int), .int .i64 (p : Int)] w (Ret fun v w' => v = .int .i64 ((pwF a n p : Nat) : Int) ∧ w' = w) := by
  obtain ⟨R, hR⟩ : ∃ R, R = pwF a n p := ⟨_, rfl⟩
  rw [← hR]
  refine calls_of_wc (args := [.int .i64 (a : Int), .int .i64 (n : Int), .int .i64 (p : Int)]) Tryz.func62 rfl ?_ ?_; kernel_rfl
  repeat' (first|refine za ?_|refine zB ?_|refine zb ?_|refine zc ?_|refine ze ?_|refine zd ?_|refine zl ?_)
  refine wc_loop3 [2] (fun (a n o : Nat) => [(0, .int .i64 (a : Int)), (1, .int .i64 (n : Int)), (7, .int .i64 (o : Int))]) (fun a n o wk => wk = w ∧ a < 2147483648 ∧ n < 2147483648 ∧ o < p ∧ ∃ f, n < 2 ^ f ∧ pwG f a n p o = R) (fun _ n _ => n) a n 1 rfl ⟨rfl, rfl, rfl, trivial⟩ ⟨rfl, ha, hn, by omega, 31, by omega, hR.symm⟩ ?_
  clear ha hn hR
  rintro a n o wk x ⟨rfl, ha, hn, ho, f, hf, hR⟩
  by_cases h0 : 0 < n
  · have hm1 := Nat.mod_lt (a * a) (show 0 < p by omega)
    have hm2 := Nat.mod_lt (o * a) (show 0 < p by omega)
    obtain ⟨f, rfl⟩ : ∃ f', f = f' + 1 := by
      cases f with
      | zero => simp at hf; omega
      | succ f => exact ⟨f, rfl⟩
    simp only [pwG] at hR
    rw [if_neg (by omega)] at hR
    rw [Nat.pow_succ] at hf
    by_cases h2 : n % 2 = 1
    · rw [if_pos h2] at hR
      repeat' (first|refine za ?_|refine zA ?_|refine zb ?_|refine zc ?_|refine ze ?_|refine zd ?_|refine zE ?_|refine zX ?_|refine zk ?_|refine zl ?_)
      refine r_rem_n (a := n) (b := 2) (c := 1) rfl rfl (by omega) (by omega) ?_
      repeat' (first|refine za ?_|refine zA ?_|refine zb ?_|refine ze ?_|refine zd ?_|refine zG ?_|refine zX ?_)
      refine r_mul_n (a := o) (b := a) rfl rfl (mul_b (by omega) (by omega)) rfl ?_
      repeat' (first|refine za ?_|refine zA ?_)
      refine r_rem_n rfl rfl (by omega) rfl ?_
      repeat' (first|refine za ?_|refine zA ?_|refine zB ?_|refine zb ?_|refine ze ?_|refine zd ?_)
      refine r_mul_n (a := a) (b := a) rfl rfl (mul_b (by omega) (by omega)) rfl ?_
      repeat' (first|refine za ?_|refine zA ?_)
      refine r_rem_n rfl rfl (by omega) rfl ?_
      repeat' (first|refine za ?_|refine zA ?_|refine zB ?_|refine zb ?_|refine ze ?_|refine zd ?_|refine zh ?_)
      refine r_quo_in rfl rfl (by omega) (by omega) ?_
      rw [show ((n : Int) / 2) = ((n / 2 : Nat) : Int) by omega]
      repeat' (first|refine za ?_|refine zB ?_|refine zb ?_|refine ze ?_)
      exact ⟨a * a % p, n / 2, o * a % p, ⟨rfl, rfl, rfl, trivial⟩, ⟨rfl, by omega, by omega, hm2, f, by omega, hR⟩, by omega⟩
    · rw [if_neg h2] at hR
      repeat' (first|refine za ?_|refine zA ?_|refine zb ?_|refine zc ?_|refine ze ?_|refine zd ?_|refine zE ?_|refine zX ?_|refine zk ?_|refine zl ?_)
      refine r_rem_n (a := n) (b := 2) (c := 0) rfl rfl (by omega) (by omega) ?_
      repeat' (first|refine za ?_|refine zA ?_|refine zb ?_|refine ze ?_|refine zd ?_|refine zG ?_|refine zY ?_|refine zk ?_)
      refine r_mul_n (a := a) (b := a) rfl rfl (mul_b (by omega) (by omega)) rfl ?_
      repeat' (first|refine za ?_|refine zA ?_)
      refine r_rem_n rfl rfl (by omega) rfl ?_
      repeat' (first|refine za ?_|refine zA ?_|refine zB ?_|refine zb ?_|refine ze ?_|refine zd ?_|refine zh ?_)
      refine r_quo_in rfl rfl (by omega) (by omega) ?_
      rw [show ((n : Int) / 2) = ((n / 2 : Nat) : Int) by omega]
      repeat' (first|refine za ?_|refine zB ?_|refine zb ?_|refine ze ?_)
      exact ⟨a * a % p, n / 2, o, ⟨rfl, rfl, rfl, trivial⟩, ⟨rfl, by omega, by omega, ho, f, by omega, hR⟩, by omega⟩
  · obtain rfl : n = 0 := by omega
    have hoR : o = R := by
      cases f with
      | zero => exact hR
      | succ f => simpa [pwG] using hR
    repeat' (first|refine za ?_|refine zA ?_|refine zB ?_|refine zb ?_|refine zc ?_|refine ze ?_|refine zd ?_|refine zE ?_|refine zY ?_|refine zm ?_|refine zn ?_|refine zg ?_|refine zj ?_)
    refine post1 (v := .int .i64 (o : Int)) rfl rfl ?_
    exact ⟨by rw [hoR], rfl⟩
theorem power_vi (a p : Nat) (n : Int) (w : World) (ha : a < 2147483648) (hp : 2 ≤ p ∧ p < 2147483648) (hn : 0 ≤ n ∧ n < 2147483648) :
    Calls Tryz.prog 62 #[.int .i64 (a : Int), .int .i64 n, .int .i64 (p : Int)] w (Ret fun v w' => v = .int .i64 ((pwF a n.toNat p : Nat) : Int) ∧ w' = w) := by
  obtain ⟨m, rfl⟩ : ∃ m : Nat, n = m := ⟨n.toNat, by omega⟩
  exact power_val a m p w ha hp (by omega)
/-- What is left of the determinant. -/
def dXY (p : Nat) : Nat → Nat → Nat → Nat → Nat
  | 0, _, _, out => out
  | s + 1, x, y, out => dXY p s ((x + (p - y * pwF x (p - 2) p % p) * y) % p) ((y + (p - y * pwF x (p - 2) p % p) * y) % p) (out * x % p)
/-- No zero comes up on the diagonal. -/
def okXY (p : Nat) : Nat → Nat → Nat → Prop
  | 0, _, _ => True
  | s + 1, x, y => x ≠ 0 ∧ okXY p s ((x + (p - y * pwF x (p - 2) p % p) * y) % p) ((y + (p - y * pwF x (p - 2) p % p) * y) % p)
instance okXY_dec (p : Nat) : ∀ s x y, Decidable (okXY p s x y)
  | 0, _, _ => .isTrue trivial
  | s + 1, _, _ => @instDecidableAnd _ _ _ (okXY_dec p s _ _)
theorem cay1 : ∀ n, n < 9 → okXY 2147483647 (n + 1) (n + 1) 2147483646 ∧ dXY 2147483647 (n + 1) (n + 1) 2147483646 1 = (n + 2) ^ n := by decide +kernel
theorem cay2 : ∀ n, n < 9 → okXY 2147483629 (n + 1) (n + 1) 2147483628 ∧ dXY 2147483629 (n + 1) (n + 1) 2147483628 1 = (n + 2) ^ n := by decide +kernel
end Go.Proofs.YtocgehoffdjijaaGreat
/- TopCayley: the determinant, walked. -/
namespace Go.Proofs.YtocgehoffdjijaaGreat
open Gv
set_option maxRecDepth 20000
theorem r_mul_w {P : Program} {st : Bool} {K : Env → World → Prop} {ρ : Env} {w : World} {d : Nat} {ty t t2 : TypeId} {pos : String} {aft : Array Edge} {gd : Option (Nat × Bool)} {x y : Operand} {a b c : Int} (hx : ev ρ x = .int .i64 a) (hy : ev ρ y = .int .i64 b) (hb : -9223372036854775808 ≤ c ∧ c ≤ 9223372036854775807) (hc : a * b = c) (h : K (up ρ d (.int .i64 c)) w) :
    w1 P st ⟨some d, .binOp .mul t x y t2, ty, pos, aft, gd⟩ K ρ w := r_mul_in hx hy (by rw [hc]; exact hb) (by rw [hc]; exact h)
def en (M : List (List Int)) (a b : Nat) : Int := (M.getD a []).getD b 0
theorem gdS {α : Type} {L : List α} {i j : Nat} {a d : α} (hi : i < L.length) : (L.set i a).getD j d = if j = i then a else L.getD j d := by
  by_cases e : j = i
  · subst e; simp [List.getD, hi]
  · rw [if_neg e, List.getD_eq_getElem?_getD, List.getElem?_set_ne (Ne.symm e), ← List.getD_eq_getElem?_getD]
theorem en_set {M : List (List Int)} {i j a b : Nat} {v : Int} (hi : i < M.length) (hj : j < (M.getD i []).length) : en (M.set i ((M.getD i []).set j v)) a b = if a = i ∧ b = j then v else en M a b := by
  unfold en
  rw [gdS hi]
  by_cases e : a = i
  · subst e
    rw [if_pos rfl, gdS hj]
    by_cases e2 : b = j
    · rw [if_pos e2, if_pos ⟨rfl, e2⟩]
    · rw [if_neg e2, if_neg fun h => e2 h.2]
  · rw [if_neg e, if_neg fun h => e h.1]
theorem len_set {M : List (List Int)} {i r : Nat} {L : List Int} (hi : i < M.length) (hL : L.length = (M.getD i []).length) : ((M.set i L).getD r []).length = (M.getD r []).length := by
  rw [gdS hi]
  split
  · rename_i e; rw [hL, e]
  · rfl
/-- One number on the diagonal, another one beside it. -/
def oXY (x y a b : Nat) : Nat := if a = b then x else y
/-- A square of this size. -/
structure Sqr (M : List (List Int)) (s : Nat) : Prop where
  len : M.length = s
  row : ∀ r, r < s → (M.getD r []).length = s
theorem Sqr.set {M : List (List Int)} {s i : Nat} {L : List Int} (h : Sqr M s) (hi : i < s) (hL : L.length = s) : Sqr (M.set i L) s :=
  ⟨by rw [List.length_set]; exact h.len, fun r hr => by rw [len_set (by rw [h.len]; exact hi) (by rw [hL, h.row i hi])]; exact h.row r hr⟩
theorem oXY_lt {x y a b p : Nat} (hx : x < p) (hy : y < p) : oXY x y a b < p := by unfold oXY; split <;> assumption
set_option maxHeartbeats 16000000 in
theorem det142 (p s x y : Nat) (hp : 2 ≤ p ∧ p < 2147483648) (hs : s ≤ 11) (hx : x < p) (hy : y < p) (hok : okXY p s x y) (q : Option Addr) (cq : Nat) (B : Nat → Prop) (M : List (List Int)) (w : World) (hB : OwnB w B 27 3 (.slice q s cq) M) (hM : Sqr M s) (hE : ∀ a b, a < s → b < s → en M a b = (oXY x y a b : Nat)) :
    Calls Tryz.prog 142 #[.slice q s cq, .int .i64 (p : Int)] w (Ret fun v w' => v = .int .i64 ((dXY p s x y 1 : Nat) : Int) ∧ Ch B w w') := by
  obtain ⟨R, hR⟩ : ∃ R, R = dXY p s x y 1 := ⟨_, rfl⟩
  rw [← hR]
  refine calls_of_wc (args := [.slice q s cq, .int .i64 (p : Int)]) Tryz.func142 rfl ?_ ?_; kernel_rfl
  repeat' (first|refine za ?_|refine zA ?_|refine zB ?_|refine zb ?_|refine zc ?_|refine ze ?_|refine zd ?_|refine zK ?_|refine zl ?_)
  refine wc_loop3 [0, 1, 13] (fun (k : Nat) (V : Nat × Nat × Nat) (_ : List (List Int)) => [(5, .int .i64 (V.2.2 : Int)), (14, .int .i64 k)]) (fun k V M wk => k ≤ s ∧ V.1 < p ∧ V.2.1 < p ∧ V.2.2 < p ∧ dXY p (s - k) V.1 V.2.1 V.2.2 = R ∧ okXY p (s - k) V.1 V.2.1 ∧ OwnB wk B 27 3 (.slice q s cq) M ∧ Sqr M s ∧ (∀ a b, k ≤ a → k ≤ b → a < s → b < s → en M a b = (oXY V.1 V.2.1 a b : Nat)) ∧ Ch B w wk) (fun k _ _ => s - k) 0 (x, y, 1) M rfl ⟨rfl, rfl, trivial⟩
    ⟨by omega, hx, hy, show 1 < p by omega, hR.symm, hok, hB, hM, fun a b _ _ => hE a b, Ch.refl _ _⟩ ?_
  clear hB hM hE hx hy hok hR
  rintro k ⟨x, y, out⟩ M wk z ⟨hk, hx, hy, ho, hR, hok, hB, hM, hE, hC⟩
  dsimp only at hx hy ho hR hok hE
  by_cases hks : k < s
  rotate_left 1
  · obtain rfl : k = s := by omega
    have hRo : out = R := by rw [Nat.sub_self] at hR; exact hR
    repeat' (first|refine za ?_|refine zA ?_|refine zB ?_|refine zb ?_|refine zc ?_|refine ze ?_|refine zd ?_|refine zC ?_|refine zY ?_|refine zm ?_|refine zn ?_|refine zg ?_|refine zj ?_)
    refine post1 (v := .int .i64 (out : Int)) rfl rfl ?_
    exact ⟨by rw [hRo], hC⟩
  obtain ⟨s', hs'⟩ : ∃ s', s - k = s' + 1 := ⟨s - k - 1, by omega⟩
  rw [hs'] at hR hok
  simp only [dXY, okXY] at hR hok
  obtain ⟨hx0, hok⟩ := hok
  obtain ⟨inv, hinv⟩ : ∃ inv, inv = pwF x (p - 2) p := ⟨_, rfl⟩
  obtain ⟨f, hf⟩ : ∃ f, f = y * inv % p := ⟨_, rfl⟩
  rw [← hinv, ← hf] at hR hok
  have hinvp : inv < p := by rw [hinv]; exact pwG_lt 31 x (p - 2) p 1 (by omega) (by omega)
  have hfp : f < p := by rw [hf]; exact Nat.mod_lt _ (by omega)
  obtain ⟨q1, m1, hrd1, hO1, hbl1, hset1⟩ := hB.row (i := k) (by rw [hM.len]; exact hks)
  rw [hM.row k hks] at hrd1 hO1 hbl1 hset1
  have hps := hB.tab.isSome (by rw [hM.len]; omega)
  have hps1 := hO1.ints.isSome (by rw [hM.row k hks]; omega)
  have hc1 := hO1.ints.rd (i := k) (by rw [hM.row k hks]; omega)
  have hkk := hE k k (Nat.le_refl _) (Nat.le_refl _) hks hks
  rw [show oXY x y k k = x from if_pos rfl] at hkk
  change Gv.rd wk (pidx q1 k 1) = some (.int .i64 (en M k k)) at hc1
  rw [hkk] at hc1
  repeat' (first|refine za ?_|refine zA ?_|refine zB ?_|refine zb ?_|refine zc ?_|refine ze ?_|refine zd ?_|refine zC ?_|refine zX ?_|refine zk ?_|refine zl ?_)
  refine wc_loop [0, 1, 5, 6, 13, 14] (fun (_ : Nat) => [(7, .int .i64 (k : Int))]) (fun _ wz => wz = wk) (fun i => i) 0 rfl ⟨rfl, trivial⟩ rfl ?_
  rintro _ wz z2 rfl
  repeat' (first|refine za ?_|refine zA ?_|refine zb ?_|refine zc ?_|refine ze ?_|refine zd ?_|refine zC ?_|refine zG ?_|refine zH ?_|refine zK ?_|refine zL ?_|refine zM ?_|refine zQ ?_|refine zU ?_|refine zY ?_|refine zk ?_|refine zm ?_|refine zg ?_|refine zj ?_)
  refine r_mul_n (a := out) (b := x) rfl rfl (mul_b (by omega) (by omega)) rfl ?_
  repeat' (first|refine za ?_|refine zA ?_)
  refine r_rem_n rfl rfl (by omega) rfl ?_
  repeat' (first|refine za ?_|refine zA ?_|refine zB ?_|refine zb ?_|refine zc ?_|refine ze ?_|refine zd ?_|refine zJ ?_|refine zL ?_|refine zM ?_)
  (refine r_call_q (v := ?_) rfl ?_ ?_; rotate_left 1; focus exact power_vi x p ((p : Int) - 2) wz (by omega) hp ⟨by omega, by omega⟩)
  rw [show ((p : Int) - 2).toNat = p - 2 by omega, ← hinv]
  repeat' (first|refine za ?_|refine zA ?_|refine zB ?_|refine zb ?_|refine zc ?_|refine ze ?_|refine zd ?_|refine zI ?_|refine zl ?_)
  obtain ⟨nw, hnw⟩ : ∃ nw : Nat → Nat → Nat, nw = fun a b => (oXY x y a b + (p - f) * oXY x y k b) % p := ⟨_, rfl⟩
  have hnwp : ∀ a b, nw a b < p := fun a b => by rw [hnw]; exact Nat.mod_lt _ (by omega)
  have hn1 : nw (k + 1) (k + 1) = (x + (p - f) * y) % p := by rw [hnw]; unfold oXY; dsimp only; rw [if_pos rfl, if_neg (by omega)]
  have hn2 : nw (k + 1) (k + 2) = (y + (p - f) * y) % p := by rw [hnw]; unfold oXY; dsimp only; rw [if_neg (by omega), if_neg (by omega)]
  refine wc_loop2 [0, 1, 5, 6, 8, 13, 14] (fun (i : Nat) (_ : List (List Int)) => [(9, .int .i64 i)]) (fun i M' wi => k + 1 ≤ i ∧ i ≤ s ∧ OwnB wi B 27 3 (.slice q s cq) M' ∧ Sqr M' s ∧ (∀ a b, k ≤ a → k ≤ b → a < s → b < s → en M' a b = ((if k < a ∧ a < i then nw a b else oXY x y a b : Nat) : Int)) ∧ Ch B wz wi) (fun i _ => s - i) (k + 1) M rfl ⟨rfl, trivial⟩
    ⟨by omega, by omega, hB, hM, fun a b h1 h2 h3 h4 => by rw [if_neg (by omega)]; exact hE a b h1 h2 h3 h4, Ch.refl _ _⟩ ?_
  rintro i M' wi z3 ⟨hki, his, hB', hM', hE', hC'⟩
  by_cases hin : i < s
  rotate_left 1
  · obtain rfl : s = i := by omega
    repeat' (first|refine za ?_|refine zA ?_|refine zb ?_|refine zc ?_|refine ze ?_|refine zd ?_|refine zC ?_|refine zI ?_|refine zK ?_|refine zY ?_|refine zm ?_|refine zg ?_|refine zj ?_|refine zh ?_)
    refine ⟨k + 1, (nw (k + 1) (k + 1), nw (k + 1) (k + 2), out * x % p), M', ⟨rfl, rfl, trivial⟩, ⟨by omega, hnwp _ _, hnwp _ _, Nat.mod_lt _ (by omega), ?_, ?_, hB', hM', fun a b h1 h2 h3 h4 => ?_, hC.trans hC'⟩, by omega⟩
    · show dXY p (s - (k + 1)) (nw (k + 1) (k + 1)) (nw (k + 1) (k + 2)) (out * x % p) = R
      rw [hn1, hn2, show s - (k + 1) = s' by omega]; exact hR
    · show okXY p (s - (k + 1)) (nw (k + 1) (k + 1)) (nw (k + 1) (k + 2))
      rw [hn1, hn2, show s - (k + 1) = s' by omega]; exact hok
    · rw [hE' a b (by omega) (by omega) h3 h4, if_pos ⟨by omega, h3⟩]
      show ((nw a b : Nat) : Int) = ((oXY (nw (k + 1) (k + 1)) (nw (k + 1) (k + 2)) a b : Nat) : Int)
      congr 1
      rw [hn1, hn2, hnw]
      unfold oXY
      dsimp only
      by_cases e : a = b
      · rw [if_pos e, if_pos e, if_neg (by omega)]
      · rw [if_neg e, if_neg e, if_neg (by omega)]
  obtain ⟨q2, m2, hrd2, hO2, hbl2, hset2⟩ := hB'.row (i := i) (by rw [hM'.len]; exact hin)
  rw [hM'.row i hin] at hrd2 hO2 hbl2 hset2
  have hps2 := hO2.ints.isSome (by rw [hM'.row i hin]; omega)
  have hc2 := hO2.ints.rd (i := k) (by rw [hM'.row i hin]; omega)
  have hik := hE' i k (by omega) (Nat.le_refl _) hin hks
  rw [if_neg (by omega), show oXY x y i k = y from if_neg (by omega)] at hik
  change Gv.rd wi (pidx q2 k 1) = some (.int .i64 (en M' i k)) at hc2
  rw [hik] at hc2
  repeat' (first|refine za ?_|refine zA ?_|refine zb ?_|refine zc ?_|refine ze ?_|refine zd ?_|refine zC ?_|refine zK ?_|refine zL ?_|refine zM ?_|refine zX ?_|refine zk ?_|refine zl ?_)
  refine r_mul_n (a := y) (b := inv) rfl rfl (mul_b (by omega) (by omega)) rfl ?_
  repeat' (first|refine za ?_|refine zA ?_)
  refine r_rem_n (c := f) rfl rfl (by omega) hf.symm ?_
  repeat' (first|refine za ?_|refine zA ?_|refine zB ?_|refine zb ?_|refine zc ?_|refine ze ?_|refine zd ?_|refine zl ?_)
  clear hrd2 hO2 hbl2 hset2 hps2 hc2 hik
  refine wc_loop2 [0, 1, 5, 6, 8, 9, 10, 13, 14] (fun (j : Nat) (_ : List (List Int)) => [(11, .int .i64 j)]) (fun j M2 wj => k ≤ j ∧ j ≤ s ∧ OwnB wj B 27 3 (.slice q s cq) M2 ∧ Sqr M2 s ∧ (∀ a b, k ≤ a → k ≤ b → a < s → b < s → en M2 a b = ((if k < a ∧ (a < i ∨ (a = i ∧ b < j)) then nw a b else oXY x y a b : Nat) : Int)) ∧ Ch B wz wj) (fun j _ => s - j) k M' rfl ⟨rfl, trivial⟩
    ⟨Nat.le_refl _, by omega, hB', hM', fun a b h1 h2 h3 h4 => by
      rw [hE' a b h1 h2 h3 h4]
      by_cases e : k < a ∧ a < i
      · rw [if_pos e, if_pos ⟨e.1, .inl e.2⟩]
      · rw [if_neg e, if_neg fun h => e ⟨h.1, by omega⟩], hC'⟩ ?_
  rintro j M2 wj z4 ⟨hkj, hjs, hB2, hM2, hE2, hC2⟩
  by_cases hjn : j < s
  rotate_left 1
  · obtain rfl : s = j := by omega
    repeat' (first|refine za ?_|refine zA ?_|refine zB ?_|refine zb ?_|refine zc ?_|refine ze ?_|refine zd ?_|refine zC ?_|refine zI ?_|refine zK ?_|refine zY ?_|refine zm ?_|refine zg ?_|refine zj ?_|refine zh ?_)
    refine ⟨i + 1, M2, ⟨rfl, trivial⟩, ⟨by omega, by omega, hB2, hM2, fun a b h1 h2 h3 h4 => ?_, hC2⟩, by omega⟩
    rw [hE2 a b h1 h2 h3 h4]
    by_cases e : k < a ∧ a < i + 1
    · rw [if_pos e, if_pos ⟨e.1, by omega⟩]
    · rw [if_neg e, if_neg fun h => e ⟨h.1, by omega⟩]
  have hEd := Ext.drew wj
  have hBd := hB2.ext hEd
  obtain ⟨q2, m2, hrd2, hO2, hbl2, hset2⟩ := hBd.row (i := i) (by rw [hM2.len]; exact hin)
  rw [hM2.row i hin] at hrd2 hO2 hbl2 hset2
  obtain ⟨q3, m3, hrd3, hO3, hbl3, hset3⟩ := hBd.row (i := k) (by rw [hM2.len]; exact hks)
  rw [hM2.row k hks] at hrd3 hO3 hbl3 hset3
  have hps2 := hO2.ints.isSome (by rw [hM2.row i hin]; omega)
  have hps3 := hO3.ints.isSome (by rw [hM2.row k hks]; omega)
  have hc2 := hO2.ints.rd (i := j) (by rw [hM2.row i hin]; omega)
  have hc3 := hO3.ints.rd (i := j) (by rw [hM2.row k hks]; omega)
  have hij := hE2 i j (by omega) hkj hin hjn
  have hkj' := hE2 k j (Nat.le_refl _) hkj hks hjn
  rw [if_neg (by omega)] at hij hkj'
  change Gv.rd wj.drew (pidx q2 j 1) = some (.int .i64 (en M2 i j)) at hc2
  change Gv.rd wj.drew (pidx q3 j 1) = some (.int .i64 (en M2 k j)) at hc3
  rw [hij] at hc2
  rw [hkj'] at hc3
  obtain ⟨a1, ha1⟩ : ∃ a1, a1 = oXY x y i j := ⟨_, rfl⟩
  obtain ⟨a2, ha2⟩ : ∃ a2, a2 = oXY x y k j := ⟨_, rfl⟩
  rw [← ha1] at hc2
  rw [← ha2] at hc3
  have ha1p : a1 < p := by rw [ha1]; exact oXY_lt hx hy
  have ha2p : a2 < p := by rw [ha2]; exact oXY_lt hx hy
  obtain ⟨C, hCd⟩ : ∃ C, C = (p - f) * a2 := ⟨_, rfl⟩
  have hCb : C ≤ 2147483648 * 2147483648 := by rw [hCd]; exact Nat.mul_le_mul (by omega) (by omega)
  have hCi : ((p : Int) - (f : Int)) * (a2 : Int) = (C : Int) := by rw [hCd, Int.natCast_mul]; congr 1; omega
  have hnv : (a1 + C) % p = nw i j := by rw [hnw, hCd, ha1, ha2]
  have hnvp := hnwp i j
  obtain ⟨nv, hnve⟩ : ∃ nv, nv = nw i j := ⟨_, rfl⟩
  rw [← hnve] at hnv hnvp
  repeat' (first|refine za ?_|refine zA ?_|refine zb ?_|refine zc ?_|refine ze ?_|refine zd ?_|refine zC ?_|refine zK ?_|refine zX ?_|refine zk ?_|refine zl ?_)
  (refine wc_drawn 26 (by kernel_rfl) (by kernel_rfl) ?_; simp only [List.take_succ_cons, List.take_zero, List.drop_succ_cons, List.drop_zero])
  repeat' (first|refine za ?_|refine zA ?_|refine zJ ?_|refine zL ?_|refine zM ?_)
  refine r_mul_w (c := (C : Int)) rfl rfl (by omega) hCi ?_
  repeat' (first|refine za ?_|refine zA ?_|refine zI ?_)
  refine r_rem_n (a := a1 + C) (c := nv) rfl rfl (by omega) hnv ?_
  repeat' (first|refine za ?_|refine zb ?_|refine zL ?_)
  refine r_st_i (i := j) (a := (nv : Int)) (e := 3) (base := 0) co3 hO2 rfl rfl (by rw [hM2.row i hin]; omega) fun w7 h7 hg7 hs7 => ?_
  have hC7 : Ch (fun g => (Value.slice q2 s m2).ownBlock = some g) wj.drew w7 := Ch.grown hg7 fun g hg => hg
  repeat' (first|refine za ?_|refine zA ?_|refine zB ?_|refine zb ?_|refine ze ?_|refine zd ?_|refine zI ?_|refine zh ?_)
  refine ⟨j + 1, M2.set i ((M2.getD i []).set j (nv : Int)), ⟨rfl, trivial⟩, ⟨by omega, by omega, hset2 w7 _ (by rw [List.length_set, hM2.row i hin]) h7 hC7, hM2.set hin (by rw [List.length_set, hM2.row i hin]), fun a b h1 h2 h3 h4 => ?_, (hC2.trans (Ext.ch hEd)).trans (hC7.mono fun g _ e => hbl2 g e)⟩, by omega⟩
  rw [en_set (by rw [hM2.len]; exact hin) (by rw [hM2.row i hin]; exact hjn)]
  by_cases e : a = i ∧ b = j
  · obtain ⟨rfl, rfl⟩ := e
    rw [if_pos ⟨rfl, rfl⟩, if_pos ⟨by omega, .inr ⟨rfl, by omega⟩⟩, hnve]
  · rw [if_neg e, hE2 a b h1 h2 h3 h4]
    by_cases e2 : k < a ∧ (a < i ∨ (a = i ∧ b < j))
    · rw [if_pos e2, if_pos ⟨e2.1, by omega⟩]
    · rw [if_neg e2, if_neg fun h => e2 ⟨h.1, by omega⟩]
end Go.Proofs.YtocgehoffdjijaaGreat
/- TopCayley: the sums of the streets, the number of the trees modulo a prime. -/
namespace Go.Proofs.YtocgehoffdjijaaGreat
open Gv
set_option maxRecDepth 20000
/-- One number of a square, increased. -/
def upF (p : Nat) (m : Nat → Nat → Nat) (i j dd : Nat) : Nat → Nat → Nat := fun a b => if a = i ∧ b = j then (m i j + dd) % p else m a b
theorem upF_lt {p i j dd : Nat} {m : Nat → Nat → Nat} (hp : 0 < p) (h : ∀ a b, m a b < p) : ∀ a b, upF p m i j dd a b < p := fun a b => by
  unfold upF; split
  · exact Nat.mod_lt _ hp
  · exact h a b
/-- What a street adds. -/
def stpF (p : Nat) (m : Nat → Nat → Nat) (i j : Nat) : Nat → Nat → Nat := upF p (upF p (upF p (upF p m i i (p + 1)) j j (p + 1)) i j (p - 1)) j i (p - 1)
def matF (p : Nat) (S : List N3) : Nat → Nat → Nat → Nat
  | 0 => fun _ _ => 0
  | k + 1 => stpF p (matF p S k) (st S k).1 (st S k).2.1
theorem matF_lt {p : Nat} {S : List N3} (hp : 0 < p) : ∀ k a b, matF p S k a b < p
  | 0, _, _ => hp
  | k + 1, a, b => upF_lt hp (upF_lt hp (upF_lt hp (upF_lt hp (matF_lt hp k)))) a b
/-- A square that holds these numbers. -/
structure MatB (w : World) (B : Nat → Prop) (q : Option Addr) (sz c p : Nat) (m : Nat → Nat → Nat) (M : List (List Int)) : Prop where
  own : OwnB w B 27 3 (.slice q sz c) M
  sqr : Sqr M sz
  ent : ∀ a b, a < sz → b < sz → en M a b = (m a b : Int)
theorem MatB.ext {w w' : World} {B : Nat → Prop} {q : Option Addr} {sz c p : Nat} {m : Nat → Nat → Nat} {M : List (List Int)} (h : MatB w B q sz c p m M) (hE : Ext w w') : MatB w' B q sz c p m M := ⟨h.own.ext hE, h.sqr, h.ent⟩
set_option maxHeartbeats 2000000 in
theorem add_any (i j sz p dd : Nat) (d : Int) (hd : d + (p : Int) = dd) (hd1 : d = 1 ∨ d = -1) (hp : 2 ≤ p ∧ p < 2147483648) (bs bm bp : Nat) (q : Option Addr) (c : Nat) (B : Nat → Prop) (m : Nat → Nat → Nat) (hm : ∀ a b, m a b < p) (M : List (List Int)) (w : World) (hs : Box w bs 3 (.int .i64 (sz : Int))) (hbm : Box w bm 35 (.slice q sz c)) (hb : Box w bp 3 (.int .i64 (p : Int))) (hM : MatB w B q sz c p m M) :
    Calls Tryz.prog 141 #[.int .i64 (i : Int), .int .i64 (j : Int), .int .i64 d, .pointer (some ⟨bs, 0, none⟩), .pointer (some ⟨bm, 0, none⟩), .pointer (some ⟨bp, 0, none⟩)] w (Ret fun _ w' => (∃ M', MatB w' B q sz c p (upF p m i j dd) M') ∧ Ch B w w') := by
  have g := hs.rd
  refine calls_of_wc (args := [.int .i64 (i : Int), .int .i64 (j : Int), .int .i64 d, .pointer (some ⟨bs, 0, none⟩), .pointer (some ⟨bm, 0, none⟩), .pointer (some ⟨bp, 0, none⟩)]) Tryz.func141 rfl ?_ ?_; kernel_rfl
  by_cases hin : i < sz ∧ j < sz
  rotate_left 1
  · have hsame : MatB w B q sz c p (upF p m i j dd) M := ⟨hM.own, hM.sqr, fun a b h1 h2 => by
      have hne : ¬ (a = i ∧ b = j) := fun e => hin ⟨by omega, by omega⟩
      rw [hM.ent a b h1 h2]; unfold upF; rw [if_neg hne]⟩
    by_cases hi : i < sz
    · repeat' (first|refine za ?_|refine zA ?_|refine zb ?_|refine zc ?_|refine ze ?_|refine zd ?_|refine zC ?_|refine zM ?_|refine zQ ?_|refine zU ?_|refine zY ?_|refine zk ?_)
      exact post0n rfl ⟨⟨M, hsame⟩, Ch.refl _ _⟩
    · repeat' (first|refine za ?_|refine zA ?_|refine zb ?_|refine zc ?_|refine ze ?_|refine zd ?_|refine zC ?_|refine zM ?_|refine zR ?_|refine zV ?_|refine zY ?_|refine zk ?_)
      exact post0n rfl ⟨⟨M, hsame⟩, Ch.refl _ _⟩
  obtain ⟨hi, hj⟩ := hin
  have hEd := Ext.drew w
  have gm := (hbm.ext hEd).rd
  have gp := (hb.ext hEd).rd
  have hBd := hM.own.ext hEd
  obtain ⟨q2, m2, hrd2, hO2, hbl2, hset2⟩ := hBd.row (i := i) (by rw [hM.sqr.len]; exact hi)
  rw [hM.sqr.row i hi] at hrd2 hO2 hbl2 hset2
  have hps := hM.own.tab.isSome (by rw [hM.sqr.len]; omega)
  have hps2 := hO2.ints.isSome (by rw [hM.sqr.row i hi]; omega)
  have hc2 := hO2.ints.rd (i := j) (by rw [hM.sqr.row i hi]; omega)
  change Gv.rd w.drew (pidx q2 j 1) = some (.int .i64 (en M i j)) at hc2
  rw [hM.ent i j hi hj] at hc2
  have hmp := hm i j
  obtain ⟨a, ha⟩ : ∃ a, a = m i j := ⟨_, rfl⟩
  rw [← ha] at hc2 hmp
  obtain ⟨v, hv⟩ : ∃ v, v = (a + dd) % p := ⟨_, rfl⟩
  repeat' (first|refine za ?_|refine zA ?_|refine zb ?_|refine zc ?_|refine ze ?_|refine zd ?_|refine zC ?_|refine zM ?_|refine zQ ?_|refine zU ?_|refine zX ?_)
  (refine wc_drawn 18 (by kernel_rfl) (by kernel_rfl) ?_; simp only [List.take_succ_cons, List.take_zero, List.drop_succ_cons, List.drop_zero])
  repeat' (first|refine za ?_|refine zA ?_|refine zI ?_|refine zL ?_|refine zM ?_)
  refine r_rem_v (c := (v : Int)) rfl rfl (by omega) (by omega) (by rw [hv, Int.natCast_emod]; congr 1; omega) ?_
  repeat' (first|refine za ?_|refine zb ?_|refine zL ?_)
  refine r_st_i (i := j) (a := (v : Int)) (e := 3) (base := 0) co3 hO2 rfl rfl (by rw [hM.sqr.row i hi]; omega) fun w7 h7 hg7 hs7 => ?_
  have hC7 : Ch (fun g => (Value.slice q2 sz m2).ownBlock = some g) w.drew w7 := Ch.grown hg7 fun g hg => hg
  repeat' (refine zb ?_)
  refine post0n rfl ⟨⟨M.set i ((M.getD i []).set j (v : Int)), hset2 w7 _ (by rw [List.length_set, hM.sqr.row i hi]) h7 hC7, hM.sqr.set hi (by rw [List.length_set, hM.sqr.row i hi]), fun x y h1 h2 => ?_⟩, (Ext.ch hEd).trans (hC7.mono fun g _ e => hbl2 g e)⟩
  rw [en_set (by rw [hM.sqr.len]; exact hi) (by rw [hM.sqr.row i hi]; exact hj)]
  unfold upF
  by_cases e : x = i ∧ y = j
  · rw [if_pos e, if_pos e, hv, ha]
  · rw [if_neg e, if_neg e, hM.ent x y h1 h2]
def rowsK (sz i : Nat) : List (List Int) := (List.range sz).map fun r => if r < i then List.replicate sz 0 else []
theorem rowsK_len (sz i : Nat) : (rowsK sz i).length = sz := by simp [rowsK]
theorem rowsK_zero (sz : Nat) : List.replicate sz [] = rowsK sz 0 := by
  apply List.ext_getElem
  · simp [rowsK]
  · intro i a b; simp [rowsK]
theorem rowsK_get {sz i r : Nat} (hr : r < sz) : (rowsK sz i).getD r [] = if r < i then List.replicate sz 0 else [] := by simp [rowsK, List.getD, hr]
theorem rowsK_set {sz i : Nat} : (rowsK sz i).set i (List.replicate sz 0) = rowsK sz (i + 1) := by
  apply List.ext_getElem
  · simp [rowsK]
  · intro r a b
    have hr : r < sz := by simpa [rowsK] using b
    rw [List.getElem_set]
    by_cases e : i = r
    · subst e; simp [rowsK]
    · rw [if_neg e]
      simp only [rowsK, List.getElem_map, List.getElem_range]
      by_cases h : r < i
      · rw [if_pos h, if_pos (by omega)]
      · rw [if_neg h, if_neg (by omega)]
theorem rowsK_mat {w : World} {B : Nat → Prop} {q : Option Addr} {sz c p : Nat} {S : List N3} (h : OwnB w B 27 3 (.slice q sz c) (rowsK sz sz)) : MatB w B q sz c p (matF p S 0) (rowsK sz sz) := by
  refine ⟨h, ⟨rowsK_len sz sz, fun r hr => by rw [rowsK_get hr, if_pos hr]; simp⟩, fun a b h1 h2 => ?_⟩
  unfold en
  rw [rowsK_get h1, if_pos h1]
  simp [List.getD, h2, matF]
/-- What lies there, behind the making of the table. -/
structure SpG (w2 : World) (bm b15 b16 b9 p n sz : Nat) (gm : Nat) (w : World) : Prop where
  map : MapF encI w bm (FF n)
  f15 : Box w b15 3 (.int .i64 (sz : Int))
  f16 : Box w b16 35 (.slice (some ⟨gm, 0, none⟩) sz sz)
  f9 : Box w b9 3 (.int .i64 (p : Int))
  ext : Ext w2 w
theorem SpG.step {w2 w w' : World} {bm b15 b16 b9 p n sz gm : Nat} (h : SpG w2 bm b15 b16 b9 p n sz gm w) (hE : Ext w w') : SpG w2 bm b15 b16 b9 p n sz gm w' :=
  ⟨h.map.ext hE, h.f15.ext hE, h.f16.ext hE, h.f9.ext hE, h.ext.trans hE⟩
theorem SpG.keep {w2 w w' : World} {bm b15 b16 b9 p n sz gm : Nat} {S : Nat → Prop} (h : SpG w2 bm b15 b16 b9 p n sz gm w) (hC : Ch S w w') (hS : ∀ k, S k → k = gm ∨ b16 < k) (ho : bm < b15 ∧ b15 < gm ∧ gm < b16 ∧ b9 < bm) (h2 : w2.heap.size ≤ bm) : SpG w2 bm b15 b16 b9 p n sz gm w' :=
  ⟨h.map.keep hC fun e => by have := hS _ e; omega, h.f15.keep hC fun e => by have := hS _ e; omega, h.f16.keep hC fun e => by have := hS _ e; omega, h.f9.keep hC fun e => by have := hS _ e; omega, Ch.trans' h.ext hC fun k hk e => by have := hS _ e; omega⟩
theorem ofB0 {v : Nat} (hv : v < 16) : ofU B0 v = v := by
  have : ∀ v, v < 16 → ofU B0 v = v := by decide +kernel
  exact this v hv
theorem FF_some {n : Nat} {v : Nat} (h : v < n) : FF n (v : Int) = some (.int .i64 (v : Int)) := by unfold FF; rw [if_pos (by omega)]
set_option maxHeartbeats 16000000 in
theorem spanning_all (n : Nat) (hn : 2 ≤ n ∧ n ≤ 11) (S : List N3) (hS : NetOk n S) (wt : Nat) (hw : ∀ k, k < S.length → (st S k).2.2 = wt) (U : List Nat) (hU : Par U) (hU0 : ∀ v, v < n → ofU U v = 0) (q : Option Addr) (c bB bA p : Nat) (w : World) (h : Trip w (.slice q S.length c) S) (hB : PrB w bB B0) (hA : PrB w bA U) (hp : 2 ≤ p ∧ p < 2147483648)
    (hfin : ∀ a b, a < n - 1 → b < n - 1 → matF p S S.length a b = oXY (n - 1) (p - 1) a b) (hok : okXY p (n - 1) (n - 1) (p - 1)) (hnp : n - 1 < p) (D : Nat) (hD : dXY p (n - 1) (n - 1) (p - 1) 1 = D) (hDp : D < p) :
    Calls Tryz.prog 106 #[.agg (netV n q S.length c).toArray, .pointer (some ⟨bB, 0, none⟩), .pointer (some ⟨bA, 0, none⟩), .int .i64 (wt : Int), .int .i64 (p : Int)] w (Ret fun v w' => v = .int .i64 (D : Int) ∧ Ext w w') := by
  refine calls_of_wc (args := [.agg (netV n q S.length c).toArray, .pointer (some ⟨bB, 0, none⟩), .pointer (some ⟨bA, 0, none⟩), .int .i64 (wt : Int), .int .i64 (p : Int)]) Tryz.func106 rfl ?_ ?_; kernel_rfl
  obtain ⟨sz, hsz⟩ : ∃ sz, n = sz + 1 := ⟨n - 1, by omega⟩
  have hSl := hS.len
  rw [show n - 1 = sz by omega] at hfin hok hD hnp
  repeat' (first|refine za ?_|refine zc ?_|refine zd ?_)
  refine r_boxN (cells := netV n q S.length c) rfl fun w1 hb5 hE1 hs1 => ?_
  obtain ⟨b5, eb5⟩ : ∃ b, b = w.heap.size := ⟨_, rfl⟩
  rw [← eb5] at hb5 ⊢
  repeat' (refine za ?_)
  refine r_box (v := .int .i64 (p : Int)) rfl rfl fun w2 hb9 hE2 hs2 => ?_
  obtain ⟨b9, eb9⟩ : ∃ b, b = w1.heap.size := ⟨_, rfl⟩
  rw [← eb9] at hb9 ⊢
  have hb52 := hb5.ext hE2
  have hE02 := hE1.trans hE2
  have gn0 : rd w2 (some ⟨b5, 0 + 0, none⟩) = some (.int .i64 (n : Int)) := hb52.rd rfl
  repeat' (first|refine za ?_|refine zB ?_|refine zb ?_|refine zc ?_|refine ze ?_|refine zd ?_)
  refine r_fa fo117_0 rfl ?_
  repeat' (first|refine za ?_|refine zA ?_|refine zb ?_|refine ze ?_|refine zM ?_|refine zl ?_)
  refine wc_loop2 [1, 2, 3, 5, 9, 25] (fun (top : Nat) (o : Nat) => [(11, .int .i64 (o : Int)), (26, .int .i64 top)]) (fun top o wk => top ≤ n ∧ Ext w2 wk ∧ (top = 0 → o = 1) ∧ (0 < top → o = D)) (fun top _ => n - top) 0 1 rfl ⟨rfl, rfl, trivial⟩ ⟨by omega, Ext.refl _, fun _ => rfl, fun h => by omega⟩ ?_
  rintro top o wk x ⟨htop, hEk, ho0, ho1⟩
  by_cases ht : top < n
  rotate_left 1
  · obtain rfl : top = n := by omega
    obtain rfl := ho1 (by omega)
    repeat' (first|refine za ?_|refine zA ?_|refine zB ?_|refine zb ?_|refine zc ?_|refine ze ?_|refine zd ?_|refine zC ?_|refine zY ?_|refine zm ?_|refine zn ?_|refine zg ?_|refine zj ?_)
    refine post1 (v := .int .i64 (o : Int)) rfl rfl ?_
    exact ⟨rfl, hE02.trans hEk⟩
  have hszk : w2.heap.size ≤ wk.heap.size := hEk.size
  repeat' (first|refine za ?_|refine zA ?_|refine zB ?_|refine zb ?_|refine zc ?_|refine ze ?_|refine zd ?_|refine zC ?_|refine zX ?_|refine zk ?_|refine zl ?_)
  refine r_makeMap encI fun w3 hF3 hE3 hs3 => ?_
  obtain ⟨bm, ebm⟩ : ∃ b, b = wk.heap.size := ⟨_, rfl⟩
  rw [← ebm] at hF3 ⊢
  have hE23 := hEk.trans hE3
  have gn3 : rd w3 (some ⟨b5, 0 + 0, none⟩) = some (.int .i64 (n : Int)) := (hb52.ext hE23).rd rfl
  have hB3 : PrB w3 bB B0 := Blk.ext hB (hE02.trans hE23)
  have hA3 : PrB w3 bA U := Blk.ext hA (hE02.trans hE23)
  have hnB : bB ≠ bm := by have := hB.lt; have := hE02.size; omega
  have hnA : bA ≠ bm := by have := hA.lt; have := hE02.size; omega
  repeat' (first|refine za ?_|refine zB ?_|refine zb ?_|refine zc ?_|refine ze ?_|refine zd ?_)
  refine r_fa fo117_0 rfl ?_
  repeat' (first|refine za ?_|refine zA ?_|refine zb ?_|refine ze ?_|refine zM ?_|refine zl ?_)
  by_cases ht0 : top = 0
  rotate_left 1
  · obtain rfl := ho1 (by omega)
    refine wc_loop [1, 2, 3, 5, 9, 11, 12, 13, 25, 26, 31] (fun (v : Nat) => [(32, .int .i64 v)]) (fun v wv => v ≤ n ∧ wv = w3) (fun v => n - v) 0 rfl ⟨rfl, trivial⟩ ⟨by omega, rfl⟩ ?_
    rintro v wv y ⟨hv, rfl⟩
    by_cases hv2 : v < n
    · have h1 := of140 bB v B0 wv hB3 par16 (by omega)
      have h2 := of140 bA v U wv hA3 hU (by omega)
      rw [ofB0 (by omega)] at h1
      rw [hU0 v hv2] at h2
      repeat' (first|refine za ?_|refine zA ?_|refine zB ?_|refine zb ?_|refine zc ?_|refine ze ?_|refine zd ?_|refine zC ?_|refine zX ?_|refine zk ?_|refine zl ?_)
      (refine r_call_q (v := ?_) rfl ?_ ?_; rotate_left 1; focus exact h1)
      repeat' (first|refine za ?_|refine zA ?_|refine zG ?_|refine zU ?_)
      (refine r_call_q (v := ?_) rfl ?_ ?_; rotate_left 1; focus exact h2)
      repeat' (first|refine za ?_|refine zA ?_|refine zb ?_|refine ze ?_|refine zd ?_|refine zG ?_|refine zI ?_|refine zQ ?_|refine zU ?_|refine zY ?_|refine zk ?_|refine zh ?_)
      exact ⟨v + 1, ⟨rfl, trivial⟩, ⟨by omega, rfl⟩, by omega⟩
    · obtain rfl : v = n := by omega
      repeat' (first|refine za ?_|refine zA ?_|refine zb ?_|refine zc ?_|refine ze ?_|refine zd ?_|refine zC ?_|refine zY ?_|refine zm ?_|refine zg ?_|refine zj ?_)
      refine r_maplen mp207 hF3 rfl fun ks h1 h2 => ?_
      rw [ks_nil h2]
      repeat' (first|refine za ?_|refine zJ ?_)
      refine r_alloc (z := .int .i64 0) z3 rfl fun w4 hb4 hE4 hs4 => ?_
      obtain ⟨b15, eb15⟩ : ∃ b, b = wv.heap.size := ⟨_, rfl⟩
      rw [← eb15] at hb4 ⊢
      repeat' (refine za ?_)
      refine r_st_box (v := .int .i64 (((0 : Nat) : Int) - 1)) co3 hb4 rfl rfl rfl fun w5 h5 hC5 hs5 => ?_
      have g15 := h5.rd
      repeat' (first|refine za ?_|refine zA ?_|refine zb ?_|refine zc ?_|refine ze ?_|refine zd ?_|refine zC ?_|refine zI ?_|refine zM ?_|refine zX ?_|refine zm ?_|refine zg ?_|refine zj ?_)
      exact ⟨top + 1, o, ⟨rfl, rfl, trivial⟩, ⟨by omega, Ch.trans' (hE23.trans hE4) hC5 fun k hk e => by have := hE23.size; omega, fun h => by omega, fun _ => rfl⟩, by omega⟩
  subst ht0
  obtain rfl := ho0 rfl
  rw [FF0] at hF3
  refine wc_loop [1, 2, 3, 5, 9, 11, 12, 13, 25, 26, 31] (fun (v : Nat) => [(32, .int .i64 v)]) (fun v wv => v ≤ n ∧ MapF encI wv bm (FF v) ∧ Ch (fun k => k = bm) w3 wv) (fun v => n - v) 0 rfl ⟨rfl, trivial⟩ ⟨by omega, hF3, Ch.refl _ _⟩ ?_
  rintro v wv y ⟨hv, hFv, hCv⟩
  by_cases hv2 : v < n
  · have h1 := of140 bB v B0 wv (hB3.keep hCv hnB) par16 (by omega)
    have h2 := of140 bA v U wv (hA3.keep hCv hnA) hU (by omega)
    rw [ofB0 (by omega)] at h1
    rw [hU0 v hv2] at h2
    repeat' (first|refine za ?_|refine zA ?_|refine zB ?_|refine zb ?_|refine zc ?_|refine ze ?_|refine zd ?_|refine zC ?_|refine zX ?_|refine zk ?_|refine zl ?_)
    (refine r_call_q (v := ?_) rfl ?_ ?_; rotate_left 1; focus exact h1)
    repeat' (first|refine za ?_|refine zA ?_|refine zG ?_|refine zU ?_)
    (refine r_call_q (v := ?_) rfl ?_ ?_; rotate_left 1; focus exact h2)
    repeat' (first|refine za ?_|refine zA ?_|refine zb ?_|refine ze ?_|refine zd ?_|refine zG ?_|refine zQ ?_|refine zU ?_|refine zX ?_)
    refine r_maplen mp207 hFv rfl fun ks hk1 hk2 => ?_
    rw [ks_len hk1 hk2]
    repeat' (refine za ?_)
    refine r_mapUpdate (k := (v : Int)) (v := .int .i64 (v : Int)) mp207 ki3 hFv rfl rfl rfl fun w6 hF6 hC6 hs6 => ?_
    rw [FF_succ] at hF6
    repeat' (first|refine za ?_|refine zA ?_|refine zb ?_|refine ze ?_|refine zd ?_|refine zI ?_|refine zh ?_)
    exact ⟨v + 1, ⟨rfl, trivial⟩, ⟨by omega, hF6, hCv.trans hC6⟩, by omega⟩
  obtain rfl : v = n := by omega
  have hE2v : Ext w2 wv := Ch.trans' hE23 hCv fun k hk e => by omega
  have hszv : bm < wv.heap.size := hFv.lt
  repeat' (first|refine za ?_|refine zA ?_|refine zb ?_|refine zc ?_|refine ze ?_|refine zd ?_|refine zC ?_|refine zY ?_|refine zm ?_|refine zg ?_|refine zj ?_)
  refine r_maplen mp207 hFv rfl fun ks hk1 hk2 => ?_
  rw [ks_len hk1 hk2]
  repeat' (first|refine za ?_|refine zJ ?_)
  refine r_alloc (z := .int .i64 0) z3 rfl fun w4 hb4 hE4 hs4 => ?_
  obtain ⟨b15, eb15⟩ : ∃ b, b = wv.heap.size := ⟨_, rfl⟩
  rw [← eb15] at hb4 ⊢
  repeat' (refine za ?_)
  rw [show (v : Int) - 1 = (sz : Int) by omega]
  refine r_st_box (v := .int .i64 (sz : Int)) co3 hb4 rfl rfl rfl fun w5 h15 hC5 hs5 => ?_
  have g15 := h15.rd
  repeat' (first|refine za ?_|refine zb ?_|refine zc ?_|refine ze ?_|refine zd ?_|refine zC ?_|refine zM ?_|refine zY ?_|refine zk ?_)
  refine r_make_v (n := sz) el35 rfl (by decide) rfl rfl (by omega) fun w6 hM6 hE6 hs6 => ?_
  obtain ⟨gm, egm⟩ : ∃ b, b = w5.heap.size := ⟨_, rfl⟩
  rw [← egm] at hM6 ⊢
  repeat' (refine za ?_)
  refine r_alloc (z := .slice none 0 0) z35 rfl fun w7 hb7 hE7 hs7 => ?_
  obtain ⟨b16, eb16⟩ : ∃ b, b = w6.heap.size := ⟨_, rfl⟩
  rw [← eb16] at hb7 ⊢
  repeat' (refine za ?_)
  refine r_st_box (v := .slice (some ⟨gm, 0, none⟩) sz sz) co35 hb7 rfl rfl rfl fun w8 h16 hC8 hs8 => ?_
  have g16 := h16.rd
  have hbm4 : bm < b15 := by omega
  have hb1516 : b15 < gm := by have := h15.lt; omega
  have hgb16 : gm < b16 := by have := (hM6.lt _ rfl).2; omega
  have hb9m : b9 < bm := by have := hb9.lt; omega
  have hord : bm < b15 ∧ b15 < gm ∧ gm < b16 ∧ b9 < bm := ⟨hbm4, hb1516, hgb16, hb9m⟩
  have e5 : Ext wv w5 := Ch.trans' hE4 hC5 fun k hk e => by omega
  have e8' : Ext w6 w8 := Ch.trans' hE7 hC8 fun k hk e => by omega
  have e8 : Ext w5 w8 := hE6.trans e8'
  have hW8 : SpG w2 bm b15 b16 b9 p v sz gm w8 := ⟨(hFv.ext e5).ext e8, h15.ext e8, h16, ((hb9.ext hE2v).ext e5).ext e8, (hE2v.trans e5).trans e8⟩
  have hT8 : OwnB w8 (fun k => k = gm ∨ (b16 < k ∧ k < w8.heap.size)) 27 3 (.slice (some ⟨gm, 0, none⟩) sz sz) (rowsK sz 0) := by
    rw [← rowsK_zero]
    exact OwnB.init (hM6.ext e8') fun g hg => by cases hg; exact .inl rfl
  have hb16lt := h16.lt
  clear hFv hCv hM6 h16 h15 hb4 hb7 hC8 hC5 g15
  repeat' (first|refine za ?_|refine zA ?_|refine zb ?_|refine zc ?_|refine ze ?_|refine zd ?_|refine zK ?_|refine zM ?_|refine zl ?_)
  refine wc_loop [1, 2, 3, 5, 9, 11, 12, 13, 15, 16, 25, 26, 60] (fun (i : Nat) => [(61, .int .i64 i)]) (fun i wz => i ≤ sz ∧ SpG w2 bm b15 b16 b9 p v sz gm wz ∧ OwnB wz (fun k => k = gm ∨ (b16 < k ∧ k < wz.heap.size)) 27 3 (.slice (some ⟨gm, 0, none⟩) sz sz) (rowsK sz i)) (fun i => sz - i) 0 rfl ⟨rfl, trivial⟩ ⟨by omega, hW8, hT8⟩ ?_
  clear hW8 hT8
  rintro i wz y2 ⟨hi, hW, hT⟩
  by_cases hi1 : i < sz
  · have hWd := hW.step (Ext.drew wz)
    have hTd := hT.ext (Ext.drew wz)
    repeat' (first|refine za ?_|refine zA ?_|refine zB ?_|refine zb ?_|refine zc ?_|refine ze ?_|refine zd ?_|refine zC ?_|refine zX ?_|refine zk ?_|refine zl ?_)
    refine wc_heldB (fun w' => Ch (fun k => k = gm) wz.drew w') (.take 0 (.take 1 (.take 2 (.one 3 (.take 4 (.one 5 .done)))))) (by kernel_rfl) (by kernel_rfl) (Ch.refl _ _) ?_
    refine whB_take rfl rfl (fun w' hw' => rv_ld ct35 rfl (hWd.f16.keep hw' (by omega)).rd) ?_
    refine whB_take (v := .int .i64 (i : Int)) rfl rfl (fun w' hw' => rv_move_v rfl) ?_
    refine whB_take rfl rfl (fun w' hw' => rv_ld ct3 rfl (hWd.f15.keep hw' (by omega)).rd) ?_
    refine whB_one rfl rfl ?_
    refine r_make_i (n := sz) el27 rfl rfl (by omega) fun wa hoa hEa hlta => ?_
    have hzlt : b16 < wz.drew.heap.size := hWd.f16.lt
    have hsd : wz.drew.heap.size = wz.heap.size := rfl
    refine ⟨Ext.ch hEa, ?_⟩
    refine whB_take rfl rfl (fun w' hw' => rv_idx sz35 rfl rfl rfl (by omega) (by omega)) ?_
    refine whB_one rfl rfl ?_
    refine r_put (b := wz.drew.heap.size) (i := i) co27 (hTd.ext hEa) rfl rfl (by rw [rowsK_len]; exact hi1) hoa (fun g hg => by omega) fun wb hTb hCb hsb => ?_
    have hCb' : Ch (fun k => k = gm) wa wb := hCb.mono fun k _ e => by cases e; rfl
    refine ⟨Ch.trans' (Ext.ch hEa) hCb' fun k hk e => e, whB_done ?_⟩
    have hWb := (hWd.step hEa).keep hCb' (fun k hk => .inl hk) hord (by have := hE23.size; omega)
    have hwsz := hEa.size
    repeat' (first|refine za ?_|refine zA ?_|refine zb ?_|refine ze ?_|refine zd ?_|refine zI ?_|refine zh ?_)
    refine ⟨i + 1, ⟨rfl, trivial⟩, ⟨by omega, hWb, ?_⟩, by omega⟩
    have hTb' := hTb.mono (B' := fun k => k = gm ∨ (b16 < k ∧ k < wb.heap.size)) fun k hk => by omega
    rw [rowsK_set] at hTb'
    exact hTb'
  obtain rfl : i = sz := by omega
  obtain ⟨B, hB'⟩ : ∃ B : Nat → Prop, B = fun k => k = gm ∨ b16 < k := ⟨_, rfl⟩
  have hBm : ∀ k, B k → k = gm ∨ b16 < k := fun k hk => by rw [hB'] at hk; exact hk
  have hTB : OwnB wz B 27 3 (.slice (some ⟨gm, 0, none⟩) i i) (rowsK i i) := hT.mono fun k hk => by rw [hB']; omega
  have hMat := rowsK_mat (p := p) (S := S) hTB
  clear hT hTB hB'
  repeat' (first|refine za ?_|refine zb ?_|refine zc ?_|refine ze ?_|refine zd ?_|refine zC ?_|refine zY ?_|refine zm ?_|refine zg ?_|refine zj ?_)
  refine r_mkfn (as_ := []) (bs := [.tmp 15, .tmp 16, .tmp 9]) ?_
  have gs1 : rd wz (some ⟨b5, 0 + 1, none⟩) = some (.slice q S.length c) := (hb52.ext hW.ext).rd rfl
  repeat' (first|refine za ?_|refine zB ?_|refine zb ?_|refine zc ?_|refine ze ?_|refine zd ?_)
  refine r_fa fo117_1 rfl ?_
  repeat' (first|refine za ?_|refine zA ?_|refine zb ?_|refine ze ?_|refine zK ?_|refine zM ?_|refine zl ?_)
  refine wc_loop [1, 2, 3, 5, 9, 11, 12, 13, 15, 16, 18, 25, 26, 72, 73] (fun (k : Nat) => [(74, .int .i64 k)]) (fun k wy => k ≤ S.length ∧ SpG w2 bm b15 b16 b9 p v i gm wy ∧ ∃ M, MatB wy B (some ⟨gm, 0, none⟩) i i p (matF p S k) M) (fun k => S.length - k) 0 rfl ⟨rfl, trivial⟩ ⟨by omega, hW, _, hMat⟩ ?_
  clear hMat
  rintro k wy y3 ⟨hk, hWy, M, hMy⟩
  by_cases hkS : k < S.length
  · have hTy := h.ext (hE02.trans hWy.ext)
    obtain ⟨s0, s1, s2⟩ := hTy.rd hkS
    have hqs := h.isSome (by omega)
    obtain ⟨ok1, ok2, ok3, _⟩ := hS.ok k hkS
    have hwk := hw k hkS
    obtain ⟨A, hA'⟩ : ∃ A, A = (st S k).1 := ⟨_, rfl⟩
    obtain ⟨Bb, hBb⟩ : ∃ Bb, Bb = (st S k).2.1 := ⟨_, rfl⟩
    change rd wy ((pidx q k 3).map fun a => a.add 0) = some (.int .i64 ((st S k).1 : Int)) at s0
    change rd wy ((pidx q k 3).map fun a => a.add 1) = some (.int .i64 ((st S k).2.1 : Int)) at s1
    change rd wy ((pidx q k 3).map fun a => a.add 2) = some (.int .i64 ((st S k).2.2 : Int)) at s2
    rw [← hA'] at s0 ok1 ok3
    rw [← hBb] at s1 ok2 ok3
    rw [hwk] at s2
    have hmat : matF p S (k + 1) = stpF p (matF p S k) A Bb := by rw [hA', hBb]; rfl
    have hmp := fun a b => matF_lt (p := p) (S := S) (by omega) k a b
    repeat' (first|refine za ?_|refine zb ?_|refine zc ?_|refine ze ?_|refine zd ?_|refine zC ?_|refine zX ?_|refine zk ?_|refine zl ?_)
    refine r_idx sz58 rfl rfl hqs (by omega) (by omega) ?_
    repeat' (refine za ?_)
    refine r_ld3Q ag60 rfl s0 s1 s2 ?_
    repeat' (refine za ?_)
    refine r_allocN z60 fun wa hb20 hEa hsa => ?_
    obtain ⟨b20, eb20⟩ : ∃ b, b = wy.heap.size := ⟨_, rfl⟩
    rw [← eb20] at hb20 ⊢
    repeat' (refine za ?_)
    refine r_stN (ws := [.int .i64 (A : Int), .int .i64 (Bb : Int), .int .i64 (wt : Int)]) ag60 (by decide) hb20 rfl rfl rfl rfl (by intro q hq; simp at hq; rcases hq with rfl | rfl | rfl <;> rfl) fun wb h20 hCb hsb => ?_
    have hEb : Ext wy wb := Ch.trans' hEa hCb fun k hk e => by omega
    have hWb := hWy.step hEb
    have hMb := hMy.ext hEb
    have k0 : rd wb (some ⟨b20, 0 + 0, none⟩) = some (.int .i64 (A : Int)) := h20.rd rfl
    have k1 : rd wb (some ⟨b20, 0 + 1, none⟩) = some (.int .i64 (Bb : Int)) := h20.rd rfl
    have k2 : rd wb (some ⟨b20, 0 + 2, none⟩) = some (.int .i64 (wt : Int)) := h20.rd rfl
    have hBw : PrB wb bB B0 := Blk.ext hB (hE02.trans hWb.ext)
    have h1 := of140 bB A B0 wb hBw par16 (by omega)
    have h2 := of140 bB Bb B0 wb hBw par16 (by omega)
    rw [ofB0 (by omega)] at h1
    rw [ofB0 (by omega)] at h2
    repeat' (first|refine za ?_|refine zA ?_|refine zb ?_|refine zc ?_|refine ze ?_|refine zd ?_)
    refine r_fa fo60_0 rfl ?_
    repeat' (first|refine za ?_|refine zM ?_)
    (refine r_call_q (v := ?_) rfl ?_ ?_; rotate_left 1; focus exact h1)
    repeat' (refine za ?_)
    refine r_lookup_some (k := (A : Int)) (v := .int .i64 (A : Int)) mp207 ki3 hWb.map rfl rfl (FF_some ok1) ?_
    repeat' (first|refine za ?_|refine zA ?_|refine zB ?_|refine zb ?_|refine zc ?_|refine ze ?_|refine zd ?_|refine zS ?_)
    refine r_fa fo60_1 rfl ?_
    repeat' (first|refine za ?_|refine zM ?_)
    (refine r_call_q (v := ?_) rfl ?_ ?_; rotate_left 1; focus exact h2)
    repeat' (refine za ?_)
    refine r_lookup (k := (Bb : Int)) (v := .int .i64 (Bb : Int)) mp207 ki3 hWb.map rfl rfl (by rw [FF_some ok2]; rfl) ?_
    repeat' (first|refine za ?_|refine zA ?_|refine zB ?_|refine zb ?_|refine zc ?_|refine ze ?_|refine zd ?_|refine zU ?_)
    refine r_fa fo60_2 rfl ?_
    repeat' (first|refine za ?_|refine zA ?_|refine zb ?_|refine zc ?_|refine ze ?_|refine zd ?_|refine zG ?_|refine zH ?_|refine zM ?_|refine zQ ?_|refine zU ?_|refine zX ?_)
    refine r_callV (cap := [.pointer (some ⟨b15, 0, none⟩), .pointer (some ⟨b16, 0, none⟩), .pointer (some ⟨b9, 0, none⟩)]) rfl rfl (add_any A A i p (p + 1) 1 (by omega) (.inl rfl) hp b15 b16 b9 (some ⟨gm, 0, none⟩) i B _ hmp M wb hWb.f15 hWb.f16 hWb.f9 hMb) ?_
    rintro _ wc1 ⟨⟨M1, hM1⟩, hC1⟩
    have hWc1 := hWb.keep hC1 hBm hord (by have := hE23.size; omega)
    have hmp1 := upF_lt (p := p) (i := A) (j := A) (dd := p + 1) (by omega) hmp
    repeat' (first|refine za ?_|refine zA ?_|refine zb ?_|refine zc ?_|refine ze ?_|refine zd ?_)
    refine r_callV (cap := [.pointer (some ⟨b15, 0, none⟩), .pointer (some ⟨b16, 0, none⟩), .pointer (some ⟨b9, 0, none⟩)]) rfl rfl (add_any Bb Bb i p (p + 1) 1 (by omega) (.inl rfl) hp b15 b16 b9 (some ⟨gm, 0, none⟩) i B _ hmp1 M1 wc1 hWc1.f15 hWc1.f16 hWc1.f9 hM1) ?_
    rintro _ wc2 ⟨⟨M2, hM2⟩, hC2⟩
    have hWc2 := hWc1.keep hC2 hBm hord (by have := hE23.size; omega)
    have hmp2 := upF_lt (p := p) (i := Bb) (j := Bb) (dd := p + 1) (by omega) hmp1
    repeat' (first|refine za ?_|refine zA ?_|refine zb ?_|refine zc ?_|refine ze ?_|refine zd ?_)
    refine r_callV (cap := [.pointer (some ⟨b15, 0, none⟩), .pointer (some ⟨b16, 0, none⟩), .pointer (some ⟨b9, 0, none⟩)]) rfl rfl (add_any A Bb i p (p - 1) (-1) (by omega) (.inr rfl) hp b15 b16 b9 (some ⟨gm, 0, none⟩) i B _ hmp2 M2 wc2 hWc2.f15 hWc2.f16 hWc2.f9 hM2) ?_
    rintro _ wc3 ⟨⟨M3, hM3⟩, hC3⟩
    have hWc3 := hWc2.keep hC3 hBm hord (by have := hE23.size; omega)
    have hmp3 := upF_lt (p := p) (i := A) (j := Bb) (dd := p - 1) (by omega) hmp2
    repeat' (first|refine za ?_|refine zA ?_|refine zb ?_|refine ze ?_|refine zd ?_)
    refine r_callV (cap := [.pointer (some ⟨b15, 0, none⟩), .pointer (some ⟨b16, 0, none⟩), .pointer (some ⟨b9, 0, none⟩)]) rfl rfl (add_any Bb A i p (p - 1) (-1) (by omega) (.inr rfl) hp b15 b16 b9 (some ⟨gm, 0, none⟩) i B _ hmp3 M3 wc3 hWc3.f15 hWc3.f16 hWc3.f9 hM3) ?_
    rintro _ wc4 ⟨⟨M4, hM4⟩, hC4⟩
    have hWc4 := hWc3.keep hC4 hBm hord (by have := hE23.size; omega)
    repeat' (first|refine za ?_|refine zA ?_|refine zb ?_|refine ze ?_|refine zd ?_|refine zI ?_|refine zh ?_)
    exact ⟨k + 1, ⟨rfl, trivial⟩, ⟨by omega, hWc4, M4, by rw [hmat]; exact hM4⟩, by omega⟩
  obtain rfl : k = S.length := by omega
  have hWd := hWy.step (Ext.drew wy)
  have hMd := hMy.ext (Ext.drew wy)
  have hd := det142 p i i (p - 1) hp (by omega) hnp (by omega) hok (some ⟨gm, 0, none⟩) i B M wy.drew hMd.own hMd.sqr (fun a b h1 h2 => by rw [hMd.ent a b h1 h2, hfin a b h1 h2])
  rw [hD] at hd
  have g16' := hWd.f16.rd
  have g9' := hWd.f9.rd
  repeat' (first|refine za ?_|refine zb ?_|refine zc ?_|refine ze ?_|refine zd ?_|refine zC ?_|refine zY ?_|refine zm ?_|refine zg ?_|refine zj ?_)
  refine wc_heldB (fun w' => Ch B wy.drew w') (.take 0 (.take 1 (.take 2 (.take 5 (.one 3 (.take 4 (.take 6 (.one 7 .done)))))))) (by kernel_rfl) (by kernel_rfl) (Ch.refl _ _) ?_
  have hn16 : ¬ B b16 := fun e => by have := hBm _ e; omega
  have hn9 : ¬ B b9 := fun e => by have := hBm _ e; omega
  refine whB_take (v := .int .i64 ((1 : Nat) : Int)) rfl rfl (fun w' hw' => rv_move_v rfl) ?_
  refine whB_take rfl rfl (fun w' hw' => rv_ld ct35 rfl (hWd.f16.keep hw' hn16).rd) ?_
  refine whB_take rfl rfl (fun w' hw' => rv_ld ct3 rfl (hWd.f9.keep hw' hn9).rd) ?_
  refine whB_take rfl rfl (fun w' hw' => rv_ld ct3 rfl (hWd.f9.keep hw' hn9).rd) ?_
  refine whB_one rfl rfl ?_
  (refine r_call (R := ?_) rfl ?_ ?_; rotate_left 1; focus exact hd)
  rintro _ w9 ⟨rfl, hC9⟩
  refine ⟨hC9, ?_⟩
  refine whB_take (v := .int .i64 (D : Int)) rfl rfl (fun w' hw' => rv_of rfl (fun _ h => r_mul_n (a := 1) (b := D) (c := D) rfl rfl (by omega) (by omega) h) fun _ _ h => val_of h) ?_
  refine whB_take (v := .int .i64 (D : Int)) rfl rfl (fun w' hw' => rv_of rfl (fun _ h => r_rem_n (a := D) (b := p) (c := D) rfl rfl (by omega) (Nat.mod_eq_of_lt hDp) h) fun _ _ h => val_of h) ?_
  refine whB_one rfl rfl ?_
  refine r_assign_v (v := .int .i64 (D : Int)) rfl ?_
  refine ⟨hC9, whB_done ?_⟩
  have hE9 : Ext w2 w9 := Ch.trans' hWd.ext hC9 fun k hk e => by have := hBm _ e; omega
  repeat' (first|refine za ?_|refine zA ?_|refine zb ?_|refine ze ?_|refine zd ?_|refine zI ?_|refine zh ?_)
  exact ⟨0 + 1, D, ⟨rfl, rfl, trivial⟩, ⟨by omega, hE9, fun h => by omega, fun _ => rfl⟩, by omega⟩
end Go.Proofs.YtocgehoffdjijaaGreat
