/- Plain law: sums, permanents by sets of columns. No program in sight. -/
import Derived.Test.YtdpckinhoooigaaRows
namespace Go.Proofs.Ytdpckinhoooigaa
namespace PM

def sumN : Nat → (Nat → Int) → Int
  | 0, _ => 0
  | n + 1, f => sumN n f + f n
theorem sumN_congr {n : Nat} {f g : Nat → Int} (h : ∀ c, c < n → f c = g c) : sumN n f = sumN n g := by
  induction n with
  | zero => rfl
  | succ n ih => simp only [sumN]; rw [ih fun c hc => h c (by omega), h n (by omega)]
theorem sumN_zero (n : Nat) : sumN n (fun _ => 0) = 0 := by induction n with | zero => rfl | succ n ih => simp [sumN, ih]
theorem sumN_add (n : Nat) (f g : Nat → Int) : sumN n (fun c => f c + g c) = sumN n f + sumN n g := by
  induction n with | zero => rfl | succ n ih => simp only [sumN, ih]; omega
theorem sumN_mul (n : Nat) (a : Int) (f : Nat → Int) : sumN n (fun c => a * f c) = a * sumN n f := by
  induction n with | zero => simp [sumN] | succ n ih => simp only [sumN, ih, Int.mul_add]
theorem sumN_single {n k : Nat} (hk : k < n) (f : Nat → Int) (h : ∀ c, c < n → c ≠ k → f c = 0) : sumN n f = f k := by
  induction n with
  | zero => omega
  | succ n ih =>
    simp only [sumN]
    by_cases hkn : k = n
    · subst hkn
      rw [sumN_congr (g := fun _ => 0) (fun c hc => h c (by omega) (by omega)), sumN_zero]; omega
    · rw [ih (by omega) fun c hc hne => h c (by omega) hne, h n (by omega) (Ne.symm hkn)]; omega
theorem sumN_update {n k : Nat} (hk : k < n) (f g : Nat → Int) (h : ∀ c, c < n → c ≠ k → g c = f c) : sumN n g = sumN n f + (g k - f k) := by
  have : sumN n g = sumN n (fun c => f c + (if c = k then g k - f k else 0)) := sumN_congr fun c hc => by
    by_cases e : c = k
    · subst e; simp; omega
    · simp [e, h c hc e]
  rw [this, sumN_add, sumN_single (f := fun c => if c = k then g k - f k else 0) hk (fun c _ e => by simp [e])]
  simp
theorem sumN_nonneg {n : Nat} {f : Nat → Int} (h : ∀ c, c < n → 0 ≤ f c) : 0 ≤ sumN n f := by
  induction n with
  | zero => simp [sumN]
  | succ n ih => simp only [sumN]; have := ih fun c hc => h c (by omega); have := h n (by omega); omega
theorem sumN_le {n : Nat} {f g : Nat → Int} (h : ∀ c, c < n → f c ≤ g c) : sumN n f ≤ sumN n g := by
  induction n with
  | zero => simp [sumN]
  | succ n ih => simp only [sumN]; have := ih fun c hc => h c (by omega); have := h n (by omega); omega
theorem sumN_swap (m n : Nat) (f : Nat → Nat → Int) : sumN m (fun a => sumN n (fun b => f a b)) = sumN n (fun b => sumN m (fun a => f a b)) := by
  induction m with
  | zero => simp [sumN, sumN_zero]
  | succ m ih => simp only [sumN, ih, sumN_add]

/- Sets of columns as numbers. -/
def cnt : Nat → Nat → Nat
  | 0, _ => 0
  | n + 1, S => cnt n S + (if S.testBit n then 1 else 0)
theorem or_add_and (a b : Nat) : (a ||| b) + (a &&& b) = a + b := by
  induction a using Nat.strongRecOn generalizing b with
  | _ a ih =>
    by_cases h : a = 0
    · subst h; simp
    · have ih' := ih (a / 2) (by omega) (b / 2)
      rw [← Nat.or_div_two, ← Nat.and_div_two] at ih'
      have e1 := Nat.or_mod_two_eq_one (a := a) (b := b)
      have e2 := Nat.and_mod_two_eq_one (a := a) (b := b)
      omega
theorem sub_bit_testBit {S c : Nat} (h : S.testBit c = true) (j : Nat) : (S - 2 ^ c).testBit j = (S.testBit j && decide (j ≠ c)) := by
  have hx : S - 2 ^ c = S ^^^ 2 ^ c := by
    have h1 : (S ^^^ 2 ^ c) + 2 ^ c = S := by
      have h2 : (S ^^^ 2 ^ c) &&& 2 ^ c = 0 := by
        apply Nat.eq_of_testBit_eq
        intro i
        simp only [Nat.testBit_and, Nat.testBit_xor, Nat.testBit_two_pow, Nat.zero_testBit]
        by_cases e : c = i
        · subst e; simp [h]
        · simp [e]
      have h3 : (S ^^^ 2 ^ c) ||| 2 ^ c = S := by
        apply Nat.eq_of_testBit_eq
        intro i
        simp only [Nat.testBit_or, Nat.testBit_xor, Nat.testBit_two_pow]
        by_cases e : c = i
        · subst e; simp [h]
        · simp [e]
      have := or_add_and (S ^^^ 2 ^ c) (2 ^ c)
      omega
    omega
  rw [hx, Nat.testBit_xor, Nat.testBit_two_pow]
  by_cases e : c = j
  · subst e; simp [h]
  · simp [e, Ne.symm e]
theorem two_pow_le_of_testBit {S c : Nat} (h : S.testBit c = true) : 2 ^ c ≤ S := Nat.ge_two_pow_of_testBit h
theorem or_bit {S c : Nat} (h : S.testBit c = false) : S ||| 2 ^ c = S + 2 ^ c := by
  have := or_add_and S (2 ^ c)
  have h2 : S &&& 2 ^ c = 0 := by
    apply Nat.eq_of_testBit_eq
    intro i
    simp only [Nat.testBit_and, Nat.testBit_two_pow, Nat.zero_testBit]
    by_cases e : c = i
    · subst e; simp [h]
    · simp [e]
  omega
theorem add_bit_testBit {S c : Nat} (h : S.testBit c = false) (j : Nat) : (S + 2 ^ c).testBit j = (S.testBit j || decide (j = c)) := by
  rw [← or_bit h, Nat.testBit_or, Nat.testBit_two_pow]
  by_cases e : c = j
  · subst e; simp
  · simp [e, Ne.symm e]
theorem add_bit_lt {S c n : Nat} (hS : S < 2 ^ n) (hc : c < n) (h : S.testBit c = false) : S + 2 ^ c < 2 ^ n := by
  rw [← or_bit h]
  exact Nat.or_lt_two_pow hS (Nat.pow_lt_pow_right (by decide) hc)
theorem cnt_congr {n S T : Nat} (h : ∀ j, j < n → S.testBit j = T.testBit j) : cnt n S = cnt n T := by
  induction n with
  | zero => rfl
  | succ n ih => simp only [cnt]; rw [ih fun j hj => h j (by omega), h n (by omega)]
theorem cnt_sub {n S c : Nat} (hc : c < n) (h : S.testBit c = true) : cnt n (S - 2 ^ c) + 1 = cnt n S := by
  induction n with
  | zero => omega
  | succ n ih =>
    simp only [cnt, sub_bit_testBit h]
    by_cases e : n = c
    · subst e
      rw [cnt_congr (S := S - 2 ^ n) (T := S) fun j hj => by rw [sub_bit_testBit h]; simp [show j ≠ n by omega]]
      simp [h]
    · have := ih (by omega)
      simp [e]; omega
theorem cnt_zero (n : Nat) : cnt n 0 = 0 := by induction n with | zero => rfl | succ n ih => simp [cnt, ih]
theorem eq_zero_of_cnt {n S : Nat} (hS : S < 2 ^ n) (h : cnt n S = 0) : S = 0 := by
  apply Nat.eq_of_testBit_eq
  intro i
  rw [Nat.zero_testBit]
  by_cases hi : i < n
  · have : ∀ m, cnt m S = 0 → ∀ j, j < m → S.testBit j = false := by
      intro m
      induction m with
      | zero => intro _ j hj; omega
      | succ m ih =>
        intro hm j hj
        simp only [cnt] at hm
        by_cases e : j = m
        · subst e; cases hb : S.testBit j <;> simp_all
        · exact ih (by omega) j (by omega)
    exact this n h i hi
  · exact Nat.testBit_lt_two_pow (Nat.lt_of_lt_of_le hS (Nat.pow_le_pow_right (by decide) (by omega)))
/-- The sum over all ways to give the first i rows exactly the columns of S. -/
def pmI (A : Nat → Nat → Int) (n : Nat) : Nat → Nat → Int
  | 0, S => if S = 0 then 1 else 0
  | i + 1, S => sumN n fun c => if S.testBit c then A i c * pmI A n i (S - 2 ^ c) else 0
theorem pmI_cnt {A : Nat → Nat → Int} {n : Nat} : ∀ {i S : Nat}, pmI A n i S ≠ 0 → cnt n S = i
  | 0, S, h => by
    simp only [pmI] at h
    by_cases e : S = 0
    · subst e; exact cnt_zero n
    · simp [e] at h
  | i + 1, S, h => by
    simp only [pmI] at h
    have : ∃ c, c < n ∧ (if S.testBit c then A i c * pmI A n i (S - 2 ^ c) else 0) ≠ 0 := by
      apply Classical.byContradiction
      intro hne
      apply h
      rw [sumN_congr (g := fun _ => 0) fun c hc => Classical.byContradiction fun h0 => hne ⟨c, hc, h0⟩, sumN_zero]
    obtain ⟨c, hc, h0⟩ := this
    by_cases hb : S.testBit c
    · rw [if_pos hb] at h0
      have h1 : pmI A n i (S - 2 ^ c) ≠ 0 := fun e => h0 (by rw [e]; simp)
      have := pmI_cnt h1
      have := cnt_sub hc hb
      omega
    · rw [if_neg hb] at h0; exact absurd rfl h0
theorem pmI_nonneg {A : Nat → Nat → Int} {n : Nat} : ∀ {i : Nat} (S : Nat), (∀ j c, j < i → c < n → 0 ≤ A j c) → 0 ≤ pmI A n i S
  | 0, S, _ => by simp only [pmI]; split <;> decide
  | i + 1, S, h => by
    simp only [pmI]
    refine sumN_nonneg fun c hc => ?_
    split
    · exact Int.mul_nonneg (h i c (by omega) hc) (pmI_nonneg _ fun j c hj hc => h j c (by omega) hc)
    · decide
theorem sumN_cnt (n S : Nat) (a : Int) : sumN n (fun c => if S.testBit c then a else 0) = a * cnt n S := by
  induction n with
  | zero => simp [sumN, cnt]
  | succ n ih =>
    simp only [sumN, cnt, ih]
    by_cases h : S.testBit n <;> simp [h, Int.mul_add]
def bnd9 : Nat → Int
  | 0 => 1
  | i + 1 => 9 * bnd9 i * (i + 1)
theorem bnd9_pos (i : Nat) : 0 < bnd9 i := by
  induction i with
  | zero => decide
  | succ i ih => simp only [bnd9]; exact Int.mul_pos (Int.mul_pos (by decide) ih) (by omega)
theorem pmI_le {A : Nat → Nat → Int} {n : Nat} : ∀ {i : Nat} (S : Nat), (∀ j c, j < i → c < n → 0 ≤ A j c ∧ A j c ≤ 9) → pmI A n i S ≤ bnd9 i
  | 0, S, _ => by simp only [pmI, bnd9]; split <;> decide
  | i + 1, S, h => by
    by_cases h0 : pmI A n (i + 1) S = 0
    · rw [h0]; exact Int.le_of_lt (bnd9_pos _)
    have hc := pmI_cnt h0
    have hn := fun S => pmI_nonneg (A := A) (n := n) (i := i) S fun j c hj hc => (h j c (by omega) hc).1
    have ih := fun S => pmI_le (A := A) (n := n) (i := i) S fun j c hj hc => h j c (by omega) hc
    have : pmI A n (i + 1) S ≤ sumN n (fun c => if S.testBit c then 9 * bnd9 i else 0) := by
      simp only [pmI]
      refine sumN_le fun c hc => ?_
      split
      · have h1 := h i c (by omega) hc
        exact Int.mul_le_mul h1.2 (ih _) (hn _) (by decide)
      · exact Int.le_refl _
    rw [sumN_cnt, hc] at this
    simpa [bnd9] using this
theorem bnd9_mono {i j : Nat} (h : i ≤ j) : bnd9 i ≤ bnd9 j := by
  induction j with
  | zero => have : i = 0 := by omega
            subst this; exact Int.le_refl _
  | succ j ih =>
    by_cases e : i = j + 1
    · subst e; exact Int.le_refl _
    · have h1 := ih (by omega)
      have h2 := bnd9_pos j
      simp only [bnd9]
      have : 1 * bnd9 j ≤ 9 * bnd9 j * (j + 1) := by
        have : 9 * bnd9 j * 1 ≤ 9 * bnd9 j * (j + 1) := Int.mul_le_mul_of_nonneg_left (by omega) (by omega)
        omega
      omega
theorem bnd9_ten {i : Nat} (h : i ≤ 10) : bnd9 i ≤ 12652843234348800 := by
  exact Int.le_trans (bnd9_mono h) (by decide +kernel)

/-- The next row, given to the sets out of L behind us and to the set u as far as column c. -/
def psum (A : Nat → Nat → Int) (n i : Nat) (L : List Int) (u c S : Nat) : Int :=
  sumN n fun j => if S.testBit j = true ∧ (((S - 2 ^ j : Nat) : Int) ∉ L ∨ (S - 2 ^ j = u ∧ j < c)) then A i j * pmI A n i (S - 2 ^ j) else 0
section
variable {A : Nat → Nat → Int} {n i : Nat} {L : List Int} {u c S : Nat}
theorem psum_start (h : ∀ S, pmI A n i S ≠ 0 → (S : Int) ∈ L) : psum A n i L u 0 S = 0 := by
  unfold psum
  rw [sumN_congr (g := fun _ => 0), sumN_zero]
  intro j hj
  split
  · rename_i hc
    have h0 : pmI A n i (S - 2 ^ j) = 0 := by
      apply Classical.byContradiction
      intro hne
      rcases hc.2 with h1 | h1
      · exact h1 (h _ hne)
      · omega
    rw [h0]; simp
  · rfl
theorem psum_hit (hu : (u : Int) ∈ L) (hb : u.testBit c = false) (hc : c < n) : psum A n i L u (c + 1) S = if S = u + 2 ^ c then psum A n i L u c S + A i c * pmI A n i u else psum A n i L u c S := by
  unfold psum
  by_cases hS : S = u + 2 ^ c
  · rw [if_pos hS]
    have hbit : S.testBit c = true := by rw [hS, add_bit_testBit hb]; simp
    have hsub : S - 2 ^ c = u := by omega
    rw [sumN_update hc (fun j => if S.testBit j = true ∧ (((S - 2 ^ j : Nat) : Int) ∉ L ∨ (S - 2 ^ j = u ∧ j < c)) then A i j * pmI A n i (S - 2 ^ j) else 0)]
    · simp only [hbit, hsub, true_and]
      rw [if_pos (by simp), if_neg (by simp [hu])]
      omega
    · intro j hj hne
      by_cases hj2 : S.testBit j = true
      · have : (S - 2 ^ j = u ∧ j < c + 1) ↔ (S - 2 ^ j = u ∧ j < c) := by
          constructor
          · rintro ⟨h1, h2⟩; exact ⟨h1, by omega⟩
          · rintro ⟨h1, h2⟩; exact ⟨h1, by omega⟩
        simp only [this]
      · simp [hj2]
  · rw [if_neg hS]
    apply sumN_congr
    intro j hj
    by_cases hj2 : S.testBit j = true
    · have : (S - 2 ^ j = u ∧ j < c + 1) ↔ (S - 2 ^ j = u ∧ j < c) := by
        constructor
        · rintro ⟨h1, h2⟩
          refine ⟨h1, ?_⟩
          by_cases e : j = c
          · subst e
            have := two_pow_le_of_testBit hj2
            omega
          · omega
        · rintro ⟨h1, h2⟩; exact ⟨h1, by omega⟩
      simp only [this]
    · simp [hj2]
theorem psum_skip (h : u.testBit c = true ∨ A i c = 0) : psum A n i L u (c + 1) S = psum A n i L u c S := by
  unfold psum
  apply sumN_congr
  intro j hj
  by_cases e : j = c
  · subst e
    rcases h with h | h
    · by_cases hj2 : S.testBit j = true
      · have : S - 2 ^ j ≠ u := by
          intro e
          have h1 := sub_bit_testBit hj2 j
          rw [e, h] at h1
          simp at h1
        simp [this]
      · simp [hj2]
    · simp [h]
  · have : (S - 2 ^ j = u ∧ j < c + 1) ↔ (S - 2 ^ j = u ∧ j < c) := by
      constructor
      · rintro ⟨h1, h2⟩; exact ⟨h1, by omega⟩
      · rintro ⟨h1, h2⟩; exact ⟨h1, by omega⟩
    simp only [this]
theorem psum_row {u' : Nat} : psum A n i L u n S = psum A n i (L.filter fun k => decide (k ≠ (u : Int))) u' 0 S := by
  unfold psum
  apply sumN_congr
  intro j hj
  have : (((S - 2 ^ j : Nat) : Int) ∉ L ∨ (S - 2 ^ j = u ∧ j < n)) ↔ (((S - 2 ^ j : Nat) : Int) ∉ L.filter (fun k => decide (k ≠ (u : Int))) ∨ (S - 2 ^ j = u' ∧ j < 0)) := by
    simp only [List.mem_filter, decide_eq_true_eq, Nat.not_lt_zero, and_false, or_false]
    constructor
    · rintro (h | ⟨h, _⟩)
      · exact fun h' => h h'.1
      · exact fun h' => h'.2 (by rw [h])
    · intro h
      by_cases h1 : ((S - 2 ^ j : Nat) : Int) ∈ L
      · right
        refine ⟨?_, hj⟩
        apply Classical.byContradiction
        intro h2
        exact h ⟨h1, by omega⟩
      · exact .inl h1
  simp only [this]
theorem psum_all : psum A n i [] u c S = pmI A n (i + 1) S := by
  unfold psum
  simp only [pmI]
  apply sumN_congr
  intro j hj
  simp
theorem psum_bounds (hA : ∀ j c, j < i + 1 → c < n → 0 ≤ A j c ∧ A j c ≤ 9) : 0 ≤ psum A n i L u c S ∧ psum A n i L u c S ≤ bnd9 (i + 1) := by
  have hn := fun S => pmI_nonneg (A := A) (n := n) (i := i) S fun j c hj hc => (hA j c (by omega) hc).1
  constructor
  · refine sumN_nonneg fun j hj => ?_
    split
    · exact Int.mul_nonneg (hA i j (by omega) hj).1 (hn _)
    · exact Int.le_refl _
  · refine Int.le_trans (sumN_le (g := fun j => if S.testBit j then A i j * pmI A n i (S - 2 ^ j) else 0) fun j hj => ?_) (pmI_le (A := A) (n := n) (i := i + 1) S hA)
    have h0 := Int.mul_nonneg (hA i j (by omega) hj).1 (hn (S - 2 ^ j))
    by_cases hb : S.testBit j = true
    · simp only [hb, true_and, if_true]
      split
      · exact Int.le_refl _
      · exact h0
    · simp [hb]
theorem mul_bounds (hA : ∀ j c, j < i + 1 → c < n → 0 ≤ A j c ∧ A j c ≤ 9) (hc : c < n) : 0 ≤ pmI A n i u * A i c ∧ pmI A n i u * A i c ≤ 9 * bnd9 i := by
  have h1 := pmI_nonneg (A := A) (n := n) (i := i) u fun j c hj hc => (hA j c (by omega) hc).1
  have h2 := pmI_le (A := A) (n := n) (i := i) u fun j c hj hc => hA j c (by omega) hc
  have h3 := hA i c (by omega) hc
  refine ⟨Int.mul_nonneg h1 h3.1, ?_⟩
  rw [Int.mul_comm 9]
  exact Int.mul_le_mul h2 h3.2 h3.1 (Int.le_of_lt (bnd9_pos i))
end
theorem testBit_shift (u c : Nat) : u.testBit c = decide (¬ (u >>> c) &&& 1 = 0) := by
  rw [Nat.testBit_eq_decide_div_mod_eq, Nat.shiftRight_eq_div_pow, Nat.and_one_is_mod]
  exact decide_eq_decide.2 (by omega)
end PM
end Go.Proofs.Ytdpckinhoooigaa
