/- Plain law: sets as numbers; the greatest densest set by going through all of them. -/
import Derived.Test.YtibegggcinonkaaPG
namespace Go.Proofs.Ytibegggcinonkaa
/-- Adding a bit that is not there. -/
theorem add_bit {x b : Nat} (h : x.testBit b = false) (j : Nat) : (x + 2 ^ b).testBit j = (decide (j = b) || x.testBit j) := by
  have hq : x = 2 ^ (b + 1) * (x / 2 ^ (b + 1)) + x % 2 ^ (b + 1) := (Nat.div_add_mod x (2 ^ (b + 1))).symm
  have hr : x % 2 ^ (b + 1) < 2 ^ b := by
    have h1 : (x % 2 ^ (b + 1)).testBit b = false := by rw [Nat.testBit_mod_two_pow, h]; simp
    refine Nat.lt_pow_two_of_testBit _ fun i hi => ?_
    by_cases e : i = b
    · subst e; exact h1
    · rw [Nat.testBit_mod_two_pow]; simp; omega
  have hb2 : 2 ^ b + x % 2 ^ (b + 1) < 2 ^ (b + 1) := by
    have hp : 2 ^ (b + 1) = 2 ^ b * 2 := Nat.pow_succ ..
    generalize x % 2 ^ (b + 1) = m at *
    omega
  have e1 : x + 2 ^ b = 2 ^ (b + 1) * (x / 2 ^ (b + 1)) + (2 ^ b + x % 2 ^ (b + 1)) := by omega
  have e2 : x.testBit j = if j < b + 1 then (x % 2 ^ (b + 1)).testBit j else (x / 2 ^ (b + 1)).testBit (j - (b + 1)) := by
    conv => lhs; rw [hq]
    exact Nat.testBit_two_pow_mul_add _ (Nat.mod_lt _ (Nat.two_pow_pos _)) j
  rw [e1, Nat.testBit_two_pow_mul_add _ hb2, e2]
  by_cases c : j < b + 1
  · rw [if_pos c, if_pos c]
    by_cases e : j = b
    · subst e; rw [Nat.testBit_two_pow_add_eq, Nat.testBit_lt_two_pow hr]; simp
    · rw [Nat.testBit_two_pow_add_gt (by omega)]; simp [e]
  · rw [if_neg c, if_neg c, decide_eq_false (by omega), Bool.false_or]
/-- There is a number with these bits. -/
theorem bits_of (P : Nat → Bool) : ∀ n, ∃ r, r < 2 ^ n ∧ ∀ u, u < n → r.testBit u = P u
  | 0 => ⟨0, by simp, fun u hu => by omega⟩
  | n + 1 => by
    obtain ⟨r, hr, h⟩ := bits_of P n
    have hz := Nat.testBit_lt_two_pow hr
    cases c : P n with
    | false => exact ⟨r, by rw [Nat.pow_succ]; omega, fun u hu => by
        by_cases e : u = n
        · subst e; rw [hz, c]
        · exact h u (by omega)⟩
    | true => exact ⟨r + 2 ^ n, by rw [Nat.pow_succ]; omega, fun u hu => by
        rw [add_bit hz]
        by_cases e : u = n
        · subst e; rw [c]; simp
        · simp [e, h u (by omega)]⟩
section
variable {L : List (Int × Int)} {n : Nat}
/-- The number of vertices of a set. -/
def onesI (n s : Nat) : Int := sumTo (fun u => if s.testBit u = true then 1 else 0) n
/-- The number of edges inside a set. -/
def insI (L : List (Int × Int)) (s : Nat) : Int := sumTo (fun k => if s.testBit (ed L k).1.toNat = true ∧ s.testBit (ed L k).2.toNat = true then 1 else 0) L.length
/-- The neighbors of v by the first i edges. -/
def nearN (L : List (Int × Int)) (v : Nat) : Nat → Nat
  | 0 => 0
  | i + 1 => nearN L v i + (if (ed L i).1 = v then 2 ^ (ed L i).2.toNat else 0) + (if (ed L i).2 = v then 2 ^ (ed L i).1.toNat else 0)
abbrev GoodE (n : Nat) (L : List (Int × Int)) : Prop := ∀ k, k < L.length → (0 ≤ (ed L k).1 ∧ (ed L k).1 < (ed L k).2 ∧ (ed L k).2 < (n : Int)) ∧ ∀ j, j < k → ed L j ≠ ed L k
theorem nearN_bit (hG : GoodE n L) {v : Nat} : ∀ {i : Nat}, i ≤ L.length → ∀ u, (nearN L v i).testBit u = true ↔ ∃ k, k < i ∧ ((ed L k = ((v : Int), (u : Int))) ∨ (ed L k = ((u : Int), (v : Int))))
  | 0, _, u => by simp [nearN]
  | i + 1, hi, u => by
    have ih := nearN_bit hG (v := v) (i := i) (by omega)
    obtain ⟨⟨h0, h1, h2⟩, hd⟩ := hG i (by omega)
    have hx : ∀ k, k < i → ed L k ≠ ed L i := fun k hk => hd k hk
    rw [nearN]
    have hsplit : (∃ k, k < i + 1 ∧ ((ed L k = ((v : Int), (u : Int))) ∨ (ed L k = ((u : Int), (v : Int))))) ↔ (∃ k, k < i ∧ ((ed L k = ((v : Int), (u : Int))) ∨ (ed L k = ((u : Int), (v : Int))))) ∨ ((ed L i = ((v : Int), (u : Int))) ∨ (ed L i = ((u : Int), (v : Int)))) := by
      constructor
      · rintro ⟨k, hk, h⟩
        by_cases e : k = i
        · subst e; exact .inr h
        · exact .inl ⟨k, by omega, h⟩
      · rintro (⟨k, hk, h⟩ | h)
        · exact ⟨k, by omega, h⟩
        · exact ⟨i, by omega, h⟩
    rw [hsplit, ← ih u]
    generalize hab : ed L i = ab at *
    obtain ⟨a, b⟩ := ab
    dsimp only at h0 h1 h2 ⊢
    have hfree : ∀ c : Nat, (∀ k, k < i → ed L k ≠ ((v : Int), (c : Int)) ∧ ed L k ≠ ((c : Int), (v : Int))) → (nearN L v i).testBit c = false := fun c hc => by
      cases hb : (nearN L v i).testBit c with
      | false => rfl
      | true =>
        obtain ⟨k, hk, h⟩ := (ih c).1 hb
        exact h.elim (fun h => absurd h (hc k hk).1) fun h => absurd h (hc k hk).2
    by_cases c1 : a = v
    · have c2 : ¬ b = v := by omega
      rw [if_pos c1, if_neg c2, Nat.add_zero]
      have hbn : ((b.toNat : Nat) : Int) = b := by omega
      have hf := hfree b.toNat fun k hk => by
        rw [hbn]
        refine ⟨fun e => hx k hk (by rw [e, c1]), fun e => ?_⟩
        have := (hG k (by omega)).1.2.1
        rw [e] at this
        dsimp only at this
        omega
      rw [add_bit hf]
      simp only [Bool.or_eq_true, decide_eq_true_eq, Prod.mk.injEq]
      constructor
      · rintro (h | h)
        · exact .inr (.inl ⟨c1, by omega⟩)
        · exact .inl h
      · rintro (h | h | h)
        · exact .inr h
        · exact .inl (by omega)
        · omega
    · rw [if_neg c1, Nat.add_zero]
      by_cases c2 : b = v
      · rw [if_pos c2]
        have han : ((a.toNat : Nat) : Int) = a := by omega
        have hf := hfree a.toNat fun k hk => by
          rw [han]
          refine ⟨fun e => ?_, fun e => hx k hk (by rw [e, c2])⟩
          have := (hG k (by omega)).1.2.1
          rw [e] at this
          dsimp only at this
          omega
        rw [add_bit hf]
        simp only [Bool.or_eq_true, decide_eq_true_eq, Prod.mk.injEq]
        constructor
        · rintro (h | h)
          · exact .inr (.inr ⟨by omega, c2⟩)
          · exact .inl h
        · rintro (h | h | h)
          · exact .inr h
          · omega
          · exact .inl (by omega)
      · rw [if_neg c2, Nat.add_zero]
        simp only [Prod.mk.injEq]
        constructor
        · exact .inl
        · rintro (h | h | h)
          · exact h
          · exact absurd h.1 c1
          · exact absurd h.2 c2
theorem nearN_lt (hG : GoodE n L) {v i : Nat} (hi : i ≤ L.length) : nearN L v i < 2 ^ n := by
  refine Nat.lt_pow_two_of_testBit _ fun u hu => ?_
  cases hb : (nearN L v i).testBit u with
  | false => rfl
  | true =>
    obtain ⟨k, hk, h⟩ := (nearN_bit hG hi u).1 hb
    have := (hG k (by omega)).1
    rcases h with h | h <;> rw [h] at this <;> dsimp only at this <;> omega
theorem bit_top {t r u : Nat} (hr : r < 2 ^ t) : (2 ^ t + r).testBit u = (decide (u = t) || r.testBit u) := by
  rw [Nat.add_comm]; exact add_bit (Nat.testBit_lt_two_pow hr) u
/-- A set with its greatest vertex. -/
theorem ones_top {t r : Nat} (ht : t < n) (hr : r < 2 ^ t) : onesI n (2 ^ t + r) = onesI n r + 1 := by
  have hz := Nat.testBit_lt_two_pow hr
  unfold onesI
  rw [sumTo_set (f := fun u => if r.testBit u = true then (1 : Int) else 0) (k := t) ht fun j hj _ => by simp only [bit_top hr, decide_eq_false hj, Bool.false_or]]
  simp only [bit_top hr, hz, decide_true, Bool.true_or, if_true]
  simp
/-- The edges from the greatest vertex. -/
theorem ones_near (hG : GoodE n L) {t r : Nat} : ∀ {i : Nat}, i ≤ L.length → onesI n (r &&& nearN L t i) = sumTo (fun k => if ((ed L k).1 = t ∧ r.testBit (ed L k).2.toNat = true) ∨ ((ed L k).2 = t ∧ r.testBit (ed L k).1.toNat = true) then 1 else 0) i
  | 0, _ => by
    unfold onesI nearN
    rw [sumTo]
    have : (fun u => if (r &&& 0).testBit u = true then (1 : Int) else 0) = fun _ => 0 := by funext u; simp
    rw [this, sumTo_zero]
  | i + 1, hi => by
    have ih := ones_near hG (t := t) (r := r) (i := i) (by omega)
    rw [sumTo, ← ih]
    obtain ⟨⟨h0, h1, h2⟩, hd⟩ := hG i (by omega)
    have hbit := nearN_bit hG (v := t) (i := i) (by omega)
    have hbit' := nearN_bit hG (v := t) (i := i + 1) (by omega)
    have key : ∀ c : Nat, c < n → (ed L i = ((t : Int), (c : Int)) ∨ ed L i = ((c : Int), (t : Int))) → onesI n (r &&& nearN L t (i + 1)) = onesI n (r &&& nearN L t i) + if r.testBit c = true then 1 else 0 := fun c hc hj => by
      have hno : (nearN L t i).testBit c = false := by
        cases hb : (nearN L t i).testBit c with
        | false => rfl
        | true =>
          obtain ⟨k, hk, h⟩ := (hbit c).1 hb
          have h3 := hd k hk
          have h4 := (hG k (by omega)).1.2.1
          rcases hj with hj | hj <;> rcases h with h | h
          · exact absurd (h.trans hj.symm) h3
          · rw [h] at h4; rw [hj] at h1; dsimp only at h1 h4; omega
          · rw [h] at h4; rw [hj] at h1; dsimp only at h1 h4; omega
          · exact absurd (h.trans hj.symm) h3
      have hyes : (nearN L t (i + 1)).testBit c = true := (hbit' c).2 ⟨i, by omega, hj⟩
      have hsame : ∀ u, u ≠ c → (nearN L t (i + 1)).testBit u = (nearN L t i).testBit u := fun u hu => by
        refine Bool.eq_iff_iff.2 ?_
        rw [hbit', hbit]
        constructor
        · rintro ⟨k, hk, h⟩
          by_cases e : k = i
          · subst e
            exfalso
            rcases hj with hj | hj <;> rw [hj] at h h1 <;> simp only [Prod.mk.injEq] at h <;> dsimp only at h1 <;> omega
          · exact ⟨k, by omega, h⟩
        · rintro ⟨k, hk, h⟩; exact ⟨k, by omega, h⟩
      unfold onesI
      rw [sumTo_set (f := fun u => if (r &&& nearN L t i).testBit u = true then (1 : Int) else 0) (k := c) hc fun j hj _ => by simp only [Nat.testBit_and, hsame j hj]]
      simp only [Nat.testBit_and, hno, hyes, Bool.and_true, Bool.and_false]
      simp
    by_cases c1 : (ed L i).1 = t
    · have c2 : ¬ (ed L i).2 = t := by omega
      rw [key (ed L i).2.toNat (by omega) (.inl (by rw [Int.toNat_of_nonneg (by omega), ← c1]))]
      generalize (ed L i).1 = a at *
      generalize (ed L i).2 = b at *
      simp [c1, c2]
    · by_cases c2 : (ed L i).2 = t
      · rw [key (ed L i).1.toNat (by omega) (.inr (by rw [Int.toNat_of_nonneg h0, ← c2]))]
        generalize (ed L i).1 = a at *
        generalize (ed L i).2 = b at *
        simp [c1, c2]
      · have : nearN L t (i + 1) = nearN L t i := by rw [nearN, if_neg c1, if_neg c2]; omega
        rw [this]
        generalize (ed L i).1 = a at *
        generalize (ed L i).2 = b at *
        simp [c1, c2]
theorem ins_top (hG : GoodE n L) {t r : Nat} (hr : r < 2 ^ t) : insI L (2 ^ t + r) = insI L r + onesI n (r &&& nearN L t L.length) := by
  rw [ones_near hG (Nat.le_refl _)]
  unfold insI
  rw [← sumTo_add]
  refine sumTo_congr fun k hk => ?_
  obtain ⟨⟨h0, h1, h2⟩, _⟩ := hG k hk
  have hz := Nat.testBit_lt_two_pow hr
  simp only [bit_top hr, Bool.or_eq_true, decide_eq_true_eq]
  generalize (ed L k).1 = a at *
  generalize (ed L k).2 = b at *
  by_cases c1 : a = t
  · have c2 : ¬ b = t := by omega
    have e1 : a.toNat = t := by omega
    have e2 : ¬ b.toNat = t := by omega
    simp [c1, c2, e2, hz]
  · by_cases c2 : b = t
    · have e1 : ¬ a.toNat = t := by omega
      have e2 : b.toNat = t := by omega
      simp [c1, c2, e1, hz]
    · have e1 : ¬ a.toNat = t := by omega
      have e2 : ¬ b.toNat = t := by omega
      simp [c1, c2, e1, e2]
/-- The vertices of a set. -/
def blL (s : Nat) : Nat → List Int
  | 0 => []
  | m + 1 => blL s m ++ if s.testBit m = true then [(m : Int)] else []
theorem blL_len {s : Nat} : ∀ m, ((blL s m).length : Int) = onesI m s
  | 0 => rfl
  | m + 1 => by
    have := blL_len (s := s) m
    unfold onesI at this ⊢
    rw [blL, sumTo, List.length_append, ← this]
    split <;> simp
theorem blL_mem {s : Nat} {v : Int} : ∀ {m : Nat}, v ∈ blL s m ↔ (0 ≤ v ∧ v < m) ∧ s.testBit v.toNat = true
  | 0 => by simp [blL]; omega
  | m + 1 => by
    rw [blL, List.mem_append, blL_mem (m := m)]
    by_cases c : s.testBit m = true
    · rw [if_pos c, List.mem_singleton]
      constructor
      · rintro (⟨h1, h2⟩ | rfl)
        · exact ⟨by omega, h2⟩
        · exact ⟨by omega, by rw [Int.toNat_natCast]; exact c⟩
      · rintro ⟨h1, h2⟩
        by_cases e : v = m
        · exact .inr e
        · exact .inl ⟨by omega, h2⟩
    · rw [if_neg c]
      constructor
      · rintro (⟨h1, h2⟩ | h)
        · exact ⟨by omega, h2⟩
        · cases h
      · rintro ⟨h1, h2⟩
        refine .inl ⟨⟨h1.1, ?_⟩, h2⟩
        by_cases e : v = m
        · subst e; rw [Int.toNat_natCast] at h2; exact absurd h2 c
        · omega
theorem blL_asc {s : Nat} : ∀ {m : Nat}, Asc (blL s m)
  | 0 => fun i h0 h1 => by simp [blL] at h1
  | m + 1 => by
    have ih := blL_asc (s := s) (m := m)
    rw [blL]
    split
    · intro i h0 h1
      rw [List.length_append, List.length_singleton] at h1
      by_cases e : i = (blL s m).length
      · subst e
        rw [getD_snoc_eq, getD_snoc_lt (by omega)]
        have := (blL_mem.1 (getD_memI (Qs := blL s m) (j := (blL s m).length - 1) (by omega))).1
        omega
      · rw [getD_snoc_lt (by omega), getD_snoc_lt (by omega)]
        exact ih i h0 (by omega)
    · rw [List.append_nil]; exact ih
theorem insI_eq {s : Nat} (hG : GoodE n L) : insI L s = insM L (blL s n) := by
  unfold insI insM
  refine sumTo_congr fun k hk => ?_
  obtain ⟨⟨h0, h1, h2⟩, _⟩ := hG k hk
  have e1 : (ed L k).1 ∈ blL s n ↔ s.testBit (ed L k).1.toNat = true := by rw [blL_mem]; exact ⟨fun h => h.2, fun h => ⟨by omega, h⟩⟩
  have e2 : (ed L k).2 ∈ blL s n ↔ s.testBit (ed L k).2.toNat = true := by rw [blL_mem]; exact ⟨fun h => h.2, fun h => ⟨by omega, h⟩⟩
  unfold bothIn
  simp only [e1, e2]
theorem onesI_nn {s : Nat} : 0 ≤ onesI n s ∧ onesI n s ≤ n := by
  rw [← blL_len]
  refine ⟨by omega, ?_⟩
  have := range_len n (blL s n) (blL_asc).nodup fun v hv => (blL_mem.1 hv).1
  omega
theorem onesI_pos {s : Nat} (h0 : 1 ≤ s) (hs : s < 2 ^ n) : 0 < onesI n s := by
  have h1 := (onesI_nn (n := n) (s := s)).1
  refine Decidable.byContradiction fun hneg => ?_
  have hl := blL_len (s := s) n
  have hnil : blL s n = [] := List.eq_nil_of_length_eq_zero (by omega)
  have : s = 0 := Nat.eq_of_testBit_eq fun i => by
    rw [Nat.zero_testBit]
    cases hb : s.testBit i with
    | false => rfl
    | true =>
      by_cases c : i < n
      · have : (i : Int) ∈ blL s n := blL_mem.2 ⟨by omega, by rw [Int.toNat_natCast]; exact hb⟩
        rw [hnil] at this; cases this
      · have h3 := Nat.testBit_lt_two_pow (x := s) (i := i) (Nat.lt_of_lt_of_le hs (Nat.pow_le_pow_right (by decide) (by omega)))
        rw [h3] at hb; cases hb
  omega
theorem insI_nn {s : Nat} : 0 ≤ insI L s ∧ insI L s ≤ L.length := by
  have h1 := sumTo_le (f := fun _ => 0) (g := fun k => if s.testBit (ed L k).1.toNat = true ∧ s.testBit (ed L k).2.toNat = true then (1 : Int) else 0) (n := L.length) fun k _ => by split <;> omega
  rw [sumTo_zero] at h1
  have h2 := sumTo_le (f := fun k => if s.testBit (ed L k).1.toNat = true ∧ s.testBit (ed L k).2.toNat = true then (1 : Int) else 0) (g := fun _ => 1) (n := L.length) fun k _ => by split <;> omega
  have h3 : ∀ m : Nat, sumTo (fun _ => 1) m = m := fun m => by
    induction m with
    | zero => rfl
    | succ m ih => rw [sumTo, ih]; omega
  rw [h3] at h2
  exact ⟨h1, h2⟩
/-- The best ratio so far, and all that have it together. -/
structure Bst (f g : Nat → Int) (s : Nat) (best size : Int) (all : Nat) : Prop where
  sz : 0 < size
  le : ∀ r, 1 ≤ r → r < s → f r * size ≤ best * g r
  bits : ∀ v, all.testBit v = true ↔ ∃ r, 1 ≤ r ∧ r < s ∧ f r * size = best * g r ∧ r.testBit v = true
  att : ∃ r, 1 ≤ r ∧ (r < s ∨ r = 1) ∧ best = f r ∧ size = g r
section
variable {f g : Nat → Int} {s all : Nat} {best size : Int}
theorem Bst.start (h0 : f 1 = 0) (h1 : g 1 = 1) : Bst f g 1 0 1 0 :=
  ⟨by decide, fun r h1 h2 => by omega, fun v => by simp; intro r h1 h2; omega, ⟨1, by omega, .inr rfl, h0.symm, h1.symm⟩⟩
theorem Bst.gt (h : Bst f g s best size all) (h1 : 1 ≤ s) (hg : ∀ r, 1 ≤ r → r ≤ s → 0 < g r) (hc : best * g s < f s * size) : Bst f g (s + 1) (f s) (g s) s := by
  have hlt : ∀ r, 1 ≤ r → r < s → f r * g s < f s * g r := fun r hr hrs => by
    have a1 := h.le r hr hrs
    have a2 : f r * size * g s ≤ best * g r * g s := Int.mul_le_mul_of_nonneg_right a1 (by have := hg s h1 (by omega); omega)
    have a3 : best * g s * g r < f s * size * g r := Int.mul_lt_mul_of_pos_right hc (hg r hr (by omega))
    have e1 : f r * size * g s = f r * g s * size := by rw [Int.mul_assoc, Int.mul_comm size, ← Int.mul_assoc]
    have e2 : best * g r * g s = best * g s * g r := by rw [Int.mul_assoc, Int.mul_comm (g r), ← Int.mul_assoc]
    have e3 : f s * size * g r = f s * g r * size := by rw [Int.mul_assoc, Int.mul_comm size, ← Int.mul_assoc]
    have a4 : f r * g s * size < f s * g r * size := by omega
    exact Int.lt_of_mul_lt_mul_right a4 (by have := h.sz; omega)
  refine ⟨hg s h1 (by omega), fun r hr hrs => ?_, fun v => ⟨fun hb => ⟨s, h1, by omega, rfl, hb⟩, ?_⟩, ⟨s, h1, .inl (by omega), rfl, rfl⟩⟩
  · by_cases e : r = s
    · subst e; exact Int.le_refl _
    · exact Int.le_of_lt (hlt r hr (by omega))
  · rintro ⟨r, hr, hrs, he, hb⟩
    by_cases e : r = s
    · subst e; exact hb
    · have := hlt r hr (by omega); omega
theorem Bst.eq (h : Bst f g s best size all) (h1 : 1 ≤ s) (hc : f s * size = best * g s) : Bst f g (s + 1) best size (all ||| s) := by
  refine ⟨h.sz, fun r hr hrs => ?_, fun v => ?_, ?_⟩
  · by_cases e : r = s
    · subst e; omega
    · exact h.le r hr (by omega)
  · rw [Nat.testBit_or, Bool.or_eq_true, h.bits v]
    constructor
    · rintro (⟨r, hr, hrs, he, hb⟩ | hb)
      · exact ⟨r, hr, by omega, he, hb⟩
      · exact ⟨s, h1, by omega, hc, hb⟩
    · rintro ⟨r, hr, hrs, he, hb⟩
      by_cases e : r = s
      · subst e; exact .inr hb
      · exact .inl ⟨r, hr, by omega, he, hb⟩
  · obtain ⟨r, hr, hrs, he⟩ := h.att
    exact ⟨r, hr, by omega, he⟩
theorem Bst.lt (h : Bst f g s best size all) (hc : f s * size < best * g s) : Bst f g (s + 1) best size all := by
  refine ⟨h.sz, fun r hr hrs => ?_, fun v => ?_, ?_⟩
  · by_cases e : r = s
    · subst e; omega
    · exact h.le r hr (by omega)
  · rw [h.bits v]
    constructor
    · rintro ⟨r, hr, hrs, he, hb⟩; exact ⟨r, hr, by omega, he, hb⟩
    · rintro ⟨r, hr, hrs, he, hb⟩
      by_cases e : r = s
      · subst e; omega
      · exact ⟨r, hr, by omega, he, hb⟩
  · obtain ⟨r, hr, hrs, he⟩ := h.att
    exact ⟨r, hr, by omega, he⟩
theorem Bst.lt_pow (h : Bst f g s best size all) (hs : s ≤ 2 ^ n) : all < 2 ^ n := by
  refine Nat.lt_pow_two_of_testBit _ fun u hu => ?_
  cases hb : all.testBit u with
  | false => rfl
  | true =>
    obtain ⟨r, _, hrs, _, hr⟩ := (h.bits u).1 hb
    have h3 := Nat.testBit_lt_two_pow (x := r) (i := u) (Nat.lt_of_lt_of_le (Nat.lt_of_lt_of_le hrs hs) (Nat.pow_le_pow_right (by decide) hu))
    rw [h3] at hr; cases hr
end
theorem insI_one (hG : GoodE n L) : insI L 1 = 0 := by
  unfold insI
  refine (sumTo_congr (g := fun _ => 0) fun k hk => ?_).trans sumTo_zero
  obtain ⟨⟨h0, h1, h2⟩, _⟩ := hG k hk
  rw [if_neg]
  rintro ⟨_, e2⟩
  have h3 := Nat.testBit_lt_two_pow (x := 1) (i := (ed L k).2.toNat) (Nat.one_lt_two_pow (by omega))
  rw [h3] at e2; cases e2
theorem onesI_one (hn : 1 ≤ n) : onesI n 1 = 1 := by
  have := ones_top (n := n) (t := 0) (r := 0) (by omega) (by decide)
  have h0 : onesI n 0 = 0 := by
    unfold onesI
    exact (sumTo_congr (g := fun _ => 0) fun k _ => by simp).trans sumTo_zero
  rw [h0] at this
  simpa using this
theorem onesI_zero : onesI n 0 = 0 := by
  unfold onesI
  exact (sumTo_congr (g := fun _ => 0) fun k _ => by simp).trans sumTo_zero
theorem insI_zero : insI L 0 = 0 := by
  unfold insI
  exact (sumTo_congr (g := fun _ => 0) fun k _ => by simp).trans sumTo_zero
/-- What all of them together are. -/
theorem Bst.dens {all : Nat} {best size : Int} {S : List Int} (h : Bst (insI L) (onesI n) (2 ^ n) best size all) (hG : GoodE n L) (hn : 1 ≤ n) (hD : Dens n L S) : blL all n = S := by
  obtain ⟨m, hm, hmb⟩ := bits_of (fun u => decide ((u : Int) ∈ S)) n
  have hmem : ∀ v, v ∈ blL m n ↔ v ∈ S := fun v => by
    rw [blL_mem]
    constructor
    · rintro ⟨hv, hb⟩
      rw [hmb v.toNat (by omega), decide_eq_true_eq, Int.toNat_of_nonneg hv.1] at hb
      exact hb
    · intro hv
      have hr := hD.rng v hv
      refine ⟨hr, ?_⟩
      rw [hmb v.toNat (by omega), decide_eq_true_eq, Int.toNat_of_nonneg hr.1]
      exact hv
  have hmS : blL m n = S := Asc.ext blL_asc hD.asc hmem
  have hm1 : 1 ≤ m := by
    refine Nat.one_le_iff_ne_zero.2 fun e => ?_
    subst e
    have := blL_len (s := 0) n
    rw [hmS, onesI_zero] at this
    have := hD.pos; omega
  have hbest : ∀ r, insI L r * S.length ≤ insM L S * onesI n r := fun r => by
    have := hD.best (blL r n) (blL_asc).nodup fun v hv => (blL_mem.1 hv).1
    rw [← insI_eq hG, blL_len] at this
    exact this
  have hfm : insI L m = insM L S := by rw [insI_eq hG, hmS]
  have hgm : onesI n m = S.length := by rw [← blL_len, hmS]
  obtain ⟨r0, hr1, hr2, hb0, hs0⟩ := h.att
  have h1 := h.le m hm1 hm
  rw [hfm, hgm] at h1
  have h2 := hbest r0
  rw [← hb0, ← hs0] at h2
  have heq : best * S.length = insM L S * size := Int.le_antisymm h2 h1
  have hsz := h.sz
  have hSp := hD.pos
  have tight : ∀ r, insI L r * size = best * onesI n r ↔ insI L r * S.length = insM L S * onesI n r := fun r => by
    constructor
    · intro e
      have : insI L r * S.length * size = insM L S * onesI n r * size := by
        calc insI L r * S.length * size = insI L r * size * S.length := by rw [Int.mul_assoc, Int.mul_comm (S.length : Int), ← Int.mul_assoc]
          _ = best * onesI n r * S.length := by rw [e]
          _ = best * S.length * onesI n r := by rw [Int.mul_assoc, Int.mul_comm (onesI n r), ← Int.mul_assoc]
          _ = insM L S * size * onesI n r := by rw [heq]
          _ = insM L S * onesI n r * size := by rw [Int.mul_assoc, Int.mul_comm size, ← Int.mul_assoc]
      exact Int.eq_of_mul_eq_mul_right (by omega) this
    · intro e
      have : insI L r * size * S.length = best * onesI n r * S.length := by
        calc insI L r * size * S.length = insI L r * S.length * size := by rw [Int.mul_assoc, Int.mul_comm size, ← Int.mul_assoc]
          _ = insM L S * onesI n r * size := by rw [e]
          _ = insM L S * size * onesI n r := by rw [Int.mul_assoc, Int.mul_comm (onesI n r), ← Int.mul_assoc]
          _ = best * S.length * onesI n r := by rw [heq]
          _ = best * onesI n r * S.length := by rw [Int.mul_assoc, Int.mul_comm (S.length : Int), ← Int.mul_assoc]
      exact Int.eq_of_mul_eq_mul_right (by omega) this
  refine Asc.ext blL_asc hD.asc fun v => ?_
  rw [blL_mem, h.bits]
  constructor
  · rintro ⟨hv, r, _, _, he, hb⟩
    refine hD.all (blL r n) (blL_asc).nodup (fun v hv => (blL_mem.1 hv).1) ?_ v (blL_mem.2 ⟨hv, hb⟩)
    rw [← insI_eq hG, blL_len]
    exact (tight r).1 he
  · intro hv
    refine ⟨hD.rng v hv, m, hm1, hm, (tight m).2 ?_, ?_⟩
    · rw [hfm, hgm]
    · have := (hmem v).2 hv
      exact (blL_mem.1 this).2
end
end Go.Proofs.Ytibegggcinonkaa
