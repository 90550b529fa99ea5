/- Plain law: sums, permanents by sets of columns. No program in sight; posts: contracts of small functions; isTable; posts: Permanent; posts: contracts of the library's functions over ints; level; with; posts: level, Level; posts: CheckSplit. -/
import Derived.Test.YtocgehoffdjijaaGreatCore
import Derived.Test.YtocgehoffdjijaaGreatMem
import Derived.Test.YtocgehoffdjijaaGreatQ
import Derived.Test.YtocgehoffdjijaaGreatMaps
import Derived.Test.YtocgehoffdjijaaGreatKeyP
import Derived.Test.YtocgehoffdjijaaGreatAgg2
import Derived.Test.YtocgehoffdjijaaGreatLay
/- Plain law: sums, permanents by sets of columns. No program in sight. -/
namespace Go.Proofs.YtocgehoffdjijaaGreat
namespace Pp
set_option maxRecDepth 20000
namespace PM

def sumN : Nat → (Nat → Int) → Int
  | 0, _ => 0
  | n + 1, f => sumN n f + f n
theorem sumN_congr {n : Nat} {f g : Nat → Int} (h : ∀ c, c < n → f c = g c) : sumN n f = sumN n g := by
  induction n with
  | zero => rfl
  | succ n ih => simp only [sumN]; rw [ih fun c hc => h c (by omega), h n (by omega)]
theorem sumN_zero (n : Nat) : sumN n (fun _ => 0) = 0 := by induction n with | zero => rfl | succ n ih => simp [sumN, ih]
theorem sumN_add (n : Nat) (f g : Nat → Int) : sumN n (fun c => f c + g c) = sumN n f + sumN n g := by
  induction n with | zero => rfl | succ n ih => simp only [sumN, ih]; omega
theorem sumN_mul (n : Nat) (a : Int) (f : Nat → Int) : sumN n (fun c => a * f c) = a * sumN n f := by
  induction n with | zero => simp [sumN] | succ n ih => simp only [sumN, ih, Int.mul_add]
theorem sumN_single {n k : Nat} (hk : k < n) (f : Nat → Int) (h : ∀ c, c < n → c ≠ k → f c = 0) : sumN n f = f k := by
  induction n with
  | zero => omega
  | succ n ih =>
    simp only [sumN]
    by_cases hkn : k = n
    · subst hkn
      rw [sumN_congr (g := fun _ => 0) (fun c hc => h c (by omega) (by omega)), sumN_zero]; omega
    · rw [ih (by omega) fun c hc hne => h c (by omega) hne, h n (by omega) (Ne.symm hkn)]; omega
theorem sumN_update {n k : Nat} (hk : k < n) (f g : Nat → Int) (h : ∀ c, c < n → c ≠ k → g c = f c) : sumN n g = sumN n f + (g k - f k) := by
  have : sumN n g = sumN n (fun c => f c + (if c = k then g k - f k else 0)) := sumN_congr fun c hc => by
    by_cases e : c = k
    · subst e; simp; omega
    · simp [e, h c hc e]
  rw [this, sumN_add, sumN_single (f := fun c => if c = k then g k - f k else 0) hk (fun c _ e => by simp [e])]
  simp
theorem sumN_nonneg {n : Nat} {f : Nat → Int} (h : ∀ c, c < n → 0 ≤ f c) : 0 ≤ sumN n f := by
  induction n with
  | zero => simp [sumN]
  | succ n ih => simp only [sumN]; have := ih fun c hc => h c (by omega); have := h n (by omega); omega
theorem sumN_le {n : Nat} {f g : Nat → Int} (h : ∀ c, c < n → f c ≤ g c) : sumN n f ≤ sumN n g := by
  induction n with
  | zero => simp [sumN]
  | succ n ih => simp only [sumN]; have := ih fun c hc => h c (by omega); have := h n (by omega); omega
theorem sumN_swap (m n : Nat) (f : Nat → Nat → Int) : sumN m (fun a => sumN n (fun b => f a b)) = sumN n (fun b => sumN m (fun a => f a b)) := by
  induction m with
  | zero => simp [sumN, sumN_zero]
  | succ m ih => simp only [sumN, ih, sumN_add]

/- Sets of columns as numbers. -/
def cnt : Nat → Nat → Nat
  | 0, _ => 0
  | n + 1, S => cnt n S + (if S.testBit n then 1 else 0)
theorem or_add_and (a b : Nat) : (a ||| b) + (a &&& b) = a + b := by
  induction a using Nat.strongRecOn generalizing b with
  | _ a ih =>
    by_cases h : a = 0
    · subst h; simp
    · have ih' := ih (a / 2) (by omega) (b / 2)
      rw [← Nat.or_div_two, ← Nat.and_div_two] at ih'
      have e1 := Nat.or_mod_two_eq_one (a := a) (b := b)
      have e2 := Nat.and_mod_two_eq_one (a := a) (b := b)
      omega
theorem sub_bit_testBit {S c : Nat} (h : S.testBit c = true) (j : Nat) : (S - 2 ^ c).testBit j = (S.testBit j && decide (j ≠ c)) := by
  have hx : S - 2 ^ c = S ^^^ 2 ^ c := by
    have h1 : (S ^^^ 2 ^ c) + 2 ^ c = S := by
      have h2 : (S ^^^ 2 ^ c) &&& 2 ^ c = 0 := by
        apply Nat.eq_of_testBit_eq
        intro i
        simp only [Nat.testBit_and, Nat.testBit_xor, Nat.testBit_two_pow, Nat.zero_testBit]
        by_cases e : c = i
        · subst e; simp [h]
        · simp [e]
      have h3 : (S ^^^ 2 ^ c) ||| 2 ^ c = S := by
        apply Nat.eq_of_testBit_eq
        intro i
        simp only [Nat.testBit_or, Nat.testBit_xor, Nat.testBit_two_pow]
        by_cases e : c = i
        · subst e; simp [h]
        · simp [e]
      have := or_add_and (S ^^^ 2 ^ c) (2 ^ c)
      omega
    omega
  rw [hx, Nat.testBit_xor, Nat.testBit_two_pow]
  by_cases e : c = j
  · subst e; simp [h]
  · simp [e, Ne.symm e]
theorem two_pow_le_of_testBit {S c : Nat} (h : S.testBit c = true) : 2 ^ c ≤ S := Nat.ge_two_pow_of_testBit h
theorem or_bit {S c : Nat} (h : S.testBit c = false) : S ||| 2 ^ c = S + 2 ^ c := by
  have := or_add_and S (2 ^ c)
  have h2 : S &&& 2 ^ c = 0 := by
    apply Nat.eq_of_testBit_eq
    intro i
    simp only [Nat.testBit_and, Nat.testBit_two_pow, Nat.zero_testBit]
    by_cases e : c = i
    · subst e; simp [h]
    · simp [e]
  omega
theorem add_bit_testBit {S c : Nat} (h : S.testBit c = false) (j : Nat) : (S + 2 ^ c).testBit j = (S.testBit j || decide (j = c)) := by
  rw [← or_bit h, Nat.testBit_or, Nat.testBit_two_pow]
  by_cases e : c = j
  · subst e; simp
  · simp [e, Ne.symm e]
theorem add_bit_lt {S c n : Nat} (hS : S < 2 ^ n) (hc : c < n) (h : S.testBit c = false) : S + 2 ^ c < 2 ^ n := by
  rw [← or_bit h]
  exact Nat.or_lt_two_pow hS (Nat.pow_lt_pow_right (by decide) hc)
theorem cnt_congr {n S T : Nat} (h : ∀ j, j < n → S.testBit j = T.testBit j) : cnt n S = cnt n T := by
  induction n with
  | zero => rfl
  | succ n ih => simp only [cnt]; rw [ih fun j hj => h j (by omega), h n (by omega)]
theorem cnt_sub {n S c : Nat} (hc : c < n) (h : S.testBit c = true) : cnt n (S - 2 ^ c) + 1 = cnt n S := by
  induction n with
  | zero => omega
  | succ n ih =>
    simp only [cnt, sub_bit_testBit h]
    by_cases e : n = c
    · subst e
      rw [cnt_congr (S := S - 2 ^ n) (T := S) fun j hj => by rw [sub_bit_testBit h]; simp [show j ≠ n by omega]]
      simp [h]
    · have := ih (by omega)
      simp [e]; omega
theorem cnt_zero (n : Nat) : cnt n 0 = 0 := by induction n with | zero => rfl | succ n ih => simp [cnt, ih]
theorem eq_zero_of_cnt {n S : Nat} (hS : S < 2 ^ n) (h : cnt n S = 0) : S = 0 := by
  apply Nat.eq_of_testBit_eq
  intro i
  rw [Nat.zero_testBit]
  by_cases hi : i < n
  · have : ∀ m, cnt m S = 0 → ∀ j, j < m → S.testBit j = false := by
      intro m
      induction m with
      | zero => intro _ j hj; omega
      | succ m ih =>
        intro hm j hj
        simp only [cnt] at hm
        by_cases e : j = m
        · subst e; cases hb : S.testBit j <;> simp_all
        · exact ih (by omega) j (by omega)
    exact this n h i hi
  · exact Nat.testBit_lt_two_pow (Nat.lt_of_lt_of_le hS (Nat.pow_le_pow_right (by decide) (by omega)))
/-- The sum over all ways to give the first i rows exactly the columns of S. -/
def pmI (A : Nat → Nat → Int) (n : Nat) : Nat → Nat → Int
  | 0, S => if S = 0 then 1 else 0
  | i + 1, S => sumN n fun c => if S.testBit c then A i c * pmI A n i (S - 2 ^ c) else 0
theorem pmI_cnt {A : Nat → Nat → Int} {n : Nat} : ∀ {i S : Nat}, pmI A n i S ≠ 0 → cnt n S = i
  | 0, S, h => by
    simp only [pmI] at h
    by_cases e : S = 0
    · subst e; exact cnt_zero n
    · simp [e] at h
  | i + 1, S, h => by
    simp only [pmI] at h
    have : ∃ c, c < n ∧ (if S.testBit c then A i c * pmI A n i (S - 2 ^ c) else 0) ≠ 0 := by
      apply Classical.byContradiction
      intro hne
      apply h
      rw [sumN_congr (g := fun _ => 0) fun c hc => Classical.byContradiction fun h0 => hne ⟨c, hc, h0⟩, sumN_zero]
    obtain ⟨c, hc, h0⟩ := this
    by_cases hb : S.testBit c
    · rw [if_pos hb] at h0
      have h1 : pmI A n i (S - 2 ^ c) ≠ 0 := fun e => h0 (by rw [e]; simp)
      have := pmI_cnt h1
      have := cnt_sub hc hb
      omega
    · rw [if_neg hb] at h0; exact absurd rfl h0
theorem pmI_nonneg {A : Nat → Nat → Int} {n : Nat} : ∀ {i : Nat} (S : Nat), (∀ j c, j < i → c < n → 0 ≤ A j c) → 0 ≤ pmI A n i S
  | 0, S, _ => by simp only [pmI]; split <;> decide
  | i + 1, S, h => by
    simp only [pmI]
    refine sumN_nonneg fun c hc => ?_
    split
    · exact Int.mul_nonneg (h i c (by omega) hc) (pmI_nonneg _ fun j c hj hc => h j c (by omega) hc)
    · decide
theorem sumN_cnt (n S : Nat) (a : Int) : sumN n (fun c => if S.testBit c then a else 0) = a * cnt n S := by
  induction n with
  | zero => simp [sumN, cnt]
  | succ n ih =>
    simp only [sumN, cnt, ih]
    by_cases h : S.testBit n <;> simp [h, Int.mul_add]
def bnd9 : Nat → Int
  | 0 => 1
  | i + 1 => 9 * bnd9 i * (i + 1)
theorem bnd9_pos (i : Nat) : 0 < bnd9 i := by
  induction i with
  | zero => decide
  | succ i ih => simp only [bnd9]; exact Int.mul_pos (Int.mul_pos (by decide) ih) (by omega)
theorem pmI_le {A : Nat → Nat → Int} {n : Nat} : ∀ {i : Nat} (S : Nat), (∀ j c, j < i → c < n → 0 ≤ A j c ∧ A j c ≤ 9) → pmI A n i S ≤ bnd9 i
  | 0, S, _ => by simp only [pmI, bnd9]; split <;> decide
  | i + 1, S, h => by
    by_cases h0 : pmI A n (i + 1) S = 0
    · rw [h0]; exact Int.le_of_lt (bnd9_pos _)
    have hc := pmI_cnt h0
    have hn := fun S => pmI_nonneg (A := A) (n := n) (i := i) S fun j c hj hc => (h j c (by omega) hc).1
    have ih := fun S => pmI_le (A := A) (n := n) (i := i) S fun j c hj hc => h j c (by omega) hc
    have : pmI A n (i + 1) S ≤ sumN n (fun c => if S.testBit c then 9 * bnd9 i else 0) := by
      simp only [pmI]
      refine sumN_le fun c hc => ?_
      split
      · have h1 := h i c (by omega) hc
        exact Int.mul_le_mul h1.2 (ih _) (hn _) (by decide)
      · exact Int.le_refl _
    rw [sumN_cnt, hc] at this
    simpa [bnd9] using this
theorem bnd9_mono {i j : Nat} (h : i ≤ j) : bnd9 i ≤ bnd9 j := by
  induction j with
  | zero => have : i = 0 := by omega
            subst this; exact Int.le_refl _
  | succ j ih =>
    by_cases e : i = j + 1
    · subst e; exact Int.le_refl _
    · have h1 := ih (by omega)
      have h2 := bnd9_pos j
      simp only [bnd9]
      have : 1 * bnd9 j ≤ 9 * bnd9 j * (j + 1) := by
        have : 9 * bnd9 j * 1 ≤ 9 * bnd9 j * (j + 1) := Int.mul_le_mul_of_nonneg_left (by omega) (by omega)
        omega
      omega
theorem bnd9_ten {i : Nat} (h : i ≤ 10) : bnd9 i ≤ 12652843234348800 := by
  exact Int.le_trans (bnd9_mono h) (by decide +kernel)

/-- The next row, given to the sets out of L behind us and to the set u as far as column c. -/
def psum (A : Nat → Nat → Int) (n i : Nat) (L : List Int) (u c S : Nat) : Int :=
  sumN n fun j => if S.testBit j = true ∧ (((S - 2 ^ j : Nat) : Int) ∉ L ∨ (S - 2 ^ j = u ∧ j < c)) then A i j * pmI A n i (S - 2 ^ j) else 0
section
variable {A : Nat → Nat → Int} {n i : Nat} {L : List Int} {u c S : Nat}
theorem psum_start (h : ∀ S, pmI A n i S ≠ 0 → (S : Int) ∈ L) : psum A n i L u 0 S = 0 := by
  unfold psum
  rw [sumN_congr (g := fun _ => 0), sumN_zero]
  intro j hj
  split
  · rename_i hc
    have h0 : pmI A n i (S - 2 ^ j) = 0 := by
      apply Classical.byContradiction
      intro hne
      rcases hc.2 with h1 | h1
      · exact h1 (h _ hne)
      · omega
    rw [h0]; simp
  · rfl
theorem psum_hit (hu : (u : Int) ∈ L) (hb : u.testBit c = false) (hc : c < n) : psum A n i L u (c + 1) S = if S = u + 2 ^ c then psum A n i L u c S + A i c * pmI A n i u else psum A n i L u c S := by
  unfold psum
  by_cases hS : S = u + 2 ^ c
  · rw [if_pos hS]
    have hbit : S.testBit c = true := by rw [hS, add_bit_testBit hb]; simp
    have hsub : S - 2 ^ c = u := by omega
    rw [sumN_update hc (fun j => if S.testBit j = true ∧ (((S - 2 ^ j : Nat) : Int) ∉ L ∨ (S - 2 ^ j = u ∧ j < c)) then A i j * pmI A n i (S - 2 ^ j) else 0)]
    · simp only [hbit, hsub, true_and]
      rw [if_pos (by simp), if_neg (by simp [hu])]
      omega
    · intro j hj hne
      by_cases hj2 : S.testBit j = true
      · have : (S - 2 ^ j = u ∧ j < c + 1) ↔ (S - 2 ^ j = u ∧ j < c) := by
          constructor
          · rintro ⟨h1, h2⟩; exact ⟨h1, by omega⟩
          · rintro ⟨h1, h2⟩; exact ⟨h1, by omega⟩
        simp only [this]
      · simp [hj2]
  · rw [if_neg hS]
    apply sumN_congr
    intro j hj
    by_cases hj2 : S.testBit j = true
    · have : (S - 2 ^ j = u ∧ j < c + 1) ↔ (S - 2 ^ j = u ∧ j < c) := by
        constructor
        · rintro ⟨h1, h2⟩
          refine ⟨h1, ?_⟩
          by_cases e : j = c
          · subst e
            have := two_pow_le_of_testBit hj2
            omega
          · omega
        · rintro ⟨h1, h2⟩; exact ⟨h1, by omega⟩
      simp only [this]
    · simp [hj2]
theorem psum_skip (h : u.testBit c = true ∨ A i c = 0) : psum A n i L u (c + 1) S = psum A n i L u c S := by
  unfold psum
  apply sumN_congr
  intro j hj
  by_cases e : j = c
  · subst e
    rcases h with h | h
    · by_cases hj2 : S.testBit j = true
      · have : S - 2 ^ j ≠ u := by
          intro e
          have h1 := sub_bit_testBit hj2 j
          rw [e, h] at h1
          simp at h1
        simp [this]
      · simp [hj2]
    · simp [h]
  · have : (S - 2 ^ j = u ∧ j < c + 1) ↔ (S - 2 ^ j = u ∧ j < c) := by
      constructor
      · rintro ⟨h1, h2⟩; exact ⟨h1, by omega⟩
      · rintro ⟨h1, h2⟩; exact ⟨h1, by omega⟩
    simp only [this]
theorem psum_row {u' : Nat} : psum A n i L u n S = psum A n i (L.filter fun k => decide (k ≠ (u : Int))) u' 0 S := by
  unfold psum
  apply sumN_congr
  intro j hj
  have : (((S - 2 ^ j : Nat) : Int) ∉ L ∨ (S - 2 ^ j = u ∧ j < n)) ↔ (((S - 2 ^ j : Nat) : Int) ∉ L.filter (fun k => decide (k ≠ (u : Int))) ∨ (S - 2 ^ j = u' ∧ j < 0)) := by
    simp only [List.mem_filter, decide_eq_true_eq, Nat.not_lt_zero, and_false, or_false]
    constructor
    · rintro (h | ⟨h, _⟩)
      · exact fun h' => h h'.1
      · exact fun h' => h'.2 (by rw [h])
    · intro h
      by_cases h1 : ((S - 2 ^ j : Nat) : Int) ∈ L
      · right
        refine ⟨?_, hj⟩
        apply Classical.byContradiction
        intro h2
        exact h ⟨h1, by omega⟩
      · exact .inl h1
  simp only [this]
theorem psum_all : psum A n i [] u c S = pmI A n (i + 1) S := by
  unfold psum
  simp only [pmI]
  apply sumN_congr
  intro j hj
  simp
theorem psum_bounds (hA : ∀ j c, j < i + 1 → c < n → 0 ≤ A j c ∧ A j c ≤ 9) : 0 ≤ psum A n i L u c S ∧ psum A n i L u c S ≤ bnd9 (i + 1) := by
  have hn := fun S => pmI_nonneg (A := A) (n := n) (i := i) S fun j c hj hc => (hA j c (by omega) hc).1
  constructor
  · refine sumN_nonneg fun j hj => ?_
    split
    · exact Int.mul_nonneg (hA i j (by omega) hj).1 (hn _)
    · exact Int.le_refl _
  · refine Int.le_trans (sumN_le (g := fun j => if S.testBit j then A i j * pmI A n i (S - 2 ^ j) else 0) fun j hj => ?_) (pmI_le (A := A) (n := n) (i := i + 1) S hA)
    have h0 := Int.mul_nonneg (hA i j (by omega) hj).1 (hn (S - 2 ^ j))
    by_cases hb : S.testBit j = true
    · simp only [hb, true_and, if_true]
      split
      · exact Int.le_refl _
      · exact h0
    · simp [hb]
theorem mul_bounds (hA : ∀ j c, j < i + 1 → c < n → 0 ≤ A j c ∧ A j c ≤ 9) (hc : c < n) : 0 ≤ pmI A n i u * A i c ∧ pmI A n i u * A i c ≤ 9 * bnd9 i := by
  have h1 := pmI_nonneg (A := A) (n := n) (i := i) u fun j c hj hc => (hA j c (by omega) hc).1
  have h2 := pmI_le (A := A) (n := n) (i := i) u fun j c hj hc => hA j c (by omega) hc
  have h3 := hA i c (by omega) hc
  refine ⟨Int.mul_nonneg h1 h3.1, ?_⟩
  rw [Int.mul_comm 9]
  exact Int.mul_le_mul h2 h3.2 h3.1 (Int.le_of_lt (bnd9_pos i))
end
theorem testBit_shift (u c : Nat) : u.testBit c = decide (¬ (u >>> c) &&& 1 = 0) := by
  rw [Nat.testBit_eq_decide_div_mod_eq, Nat.shiftRight_eq_div_pow, Nat.and_one_is_mod]
  exact decide_eq_decide.2 (by omega)
end PM
end Pp
end Go.Proofs.YtocgehoffdjijaaGreat
/- posts: contracts of small functions; isTable. -/
namespace Go.Proofs.YtocgehoffdjijaaGreat
namespace Pp
set_option maxRecDepth 20000
open Gv
theorem el27 : elemI Tryz.prog 27 = some (3, .int .i64 0, 1, 8) := by kernel_rfl
theorem el22 : elemI Tryz.prog 35 = some (27, .slice none 0 0, 1, 24) := by kernel_rfl
set_option maxHeartbeats 400000 in
theorem within_any (n lo hi : Int) (w : World) :
    Calls Tryz.prog 69 #[.int .i64 n, .int .i64 lo, .int .i64 hi] w (Ret fun v w' => v = .bool (decide (lo ≤ n ∧ n ≤ hi)) ∧ w' = w) := by
  refine calls_of_wc (args := [.int .i64 n, .int .i64 lo, .int .i64 hi]) Tryz.func69 rfl ?_ ?_; kernel_rfl
  repeat' (first|refine za ?_|refine zA ?_|refine zB ?_|refine zb ?_|refine zc ?_|refine ze ?_|refine zd ?_|refine r_leq rfl rfl ?_|refine r_geq rfl rfl ?_|refine zQ ?_|refine zR ?_|refine zU ?_|refine zV ?_|refine zt (fun hcd => ?_) (fun hcd => ?_)|refine zn ?_)
  · refine post1 (v := .bool (decide (n ≤ hi))) rfl rfl ?_
    exact ⟨congrArg Value.bool (decide_eq_decide.2 (by omega)), rfl⟩
  · refine post1 (v := .bool false) rfl rfl ?_
    exact ⟨congrArg Value.bool (decide_eq_false (by omega)).symm, rfl⟩
set_option maxHeartbeats 400000 in
theorem isTable11_any (n : Int) (w : World) :
    Calls Tryz.prog 114 #[.int .i64 n] w (Ret fun v w' => v = .bool (decide (¬ (0 ≤ n ∧ n ≤ 9))) ∧ w' = w) := by
  refine calls_of_wc (args := [.int .i64 n]) Tryz.func114 rfl ?_ ?_; kernel_rfl
  repeat' (first|refine za ?_|refine zA ?_|refine zB ?_|refine zb ?_|refine zc ?_|refine ze ?_|refine zd ?_)
  (refine r_call (R := ?_) rfl ?_ ?_; rotate_left 1; focus exact within_any _ _ _ _)
  rintro v w' ⟨rfl, rfl⟩
  repeat' (first|refine za ?_|refine zB ?_|refine zb ?_|refine ze ?_|refine zN ?_|refine zn ?_)
  refine post1 (v := .bool (decide (¬ (0 ≤ n ∧ n ≤ 9)))) rfl rfl ?_
  exact ⟨rfl, rfl⟩
/-- slices.IndexFunc over ints. -/
def IdxF (n : Nat) (p : Nat → Prop) (v : Value) : Prop := ∃ r : Int, v = .int .i64 r ∧ ((r = -1 ∧ ∀ i, i < n → ¬ p i) ∨ ∃ i : Nat, i < n ∧ r = i ∧ p i)
set_option maxHeartbeats 400000 in
theorem indexFunc73 (f : FuncId) (hf : callable Tryz.prog f = true) (v : Value) (L : List Int) (p : Int → Prop) [DecidablePred p] (w : World) (h : Ints w v L) (hm : L.length < 9223372036854775807)
    (hc : ∀ n w', Calls Tryz.prog f #[.int .i64 n] w' (Ret fun v w'' => v = .bool (decide (p n)) ∧ w'' = w')) :
    Calls Tryz.prog 121 #[v, .func (.func f) #[] #[]] w (Ret fun v w' => IdxF L.length (fun i => p (L.getD i 0)) v ∧ w' = w) := by
  obtain ⟨q, c, rfl, hqc⟩ := h.slice
  refine calls_of_wc (args := [.slice q L.length c, .func (.func f) #[] #[]]) Tryz.func121 rfl ?_ ?_; kernel_rfl
  repeat' (first|refine za ?_|refine zA ?_|refine zB ?_|refine zb ?_|refine zc ?_|refine ze ?_|refine zd ?_|refine zK ?_|refine zl ?_)
  refine wc_loop [0, 1, 7] (fun (k : Nat) => [(8, .int .i64 k)]) (fun k wk => wk = w ∧ k ≤ L.length ∧ ∀ i, i < k → ¬ p (L.getD i 0)) (fun k => L.length - k) 0 rfl ⟨rfl, trivial⟩ ⟨rfl, by omega, by intro i hi; omega⟩ ?_
  rintro k wk x ⟨rfl, hk, hall⟩
  repeat' (first|refine za ?_|refine zA ?_|refine zB ?_|refine zb ?_|refine zc ?_|refine ze ?_|refine zd ?_|refine r_lss rfl rfl ?_|refine zv (fun hcd => ?_) (fun hcd => ?_)|refine zk ?_|refine zl ?_|refine zm ?_|refine zn ?_|refine zg ?_|refine zj ?_)
  · have hps := h.isSome (by omega)
    have hrd := h.rd (i := k) (by omega)
    repeat' (first|refine za ?_|refine zL ?_|refine zM ?_)
    refine r_callV (cap := []) rfl hf (hc _ _) ?_
    rintro v' w' ⟨rfl, rfl⟩
    repeat' (first|refine za ?_|refine zA ?_|refine zB ?_|refine zb ?_|refine zc ?_|refine ze ?_|refine zd ?_|refine zI ?_|refine zv (fun hcd => ?_) (fun hcd => ?_)|refine zk ?_|refine zn ?_|refine zf ?_|refine zh ?_|refine zi ?_)
    · rename_i hp
      refine post1 (v := .int .i64 (k : Int)) rfl rfl ?_
      exact ⟨⟨k, rfl, .inr ⟨k, by omega, rfl, by assumption⟩⟩, rfl⟩
    · refine ⟨k + 1, ⟨rfl, trivial⟩, ⟨rfl, by omega, fun i hi => ?_⟩, by omega⟩
      by_cases hik : i = k
      · subst hik; assumption
      · exact hall i (by omega)
  · refine post1 (v := .int .i64 (-1)) rfl rfl ?_
    exact ⟨⟨-1, rfl, .inl ⟨rfl, fun i hi => hall i (by omega)⟩⟩, rfl⟩
set_option maxHeartbeats 400000 in
theorem containsFunc66 (v : Value) (L : List Int) (w : World) (h : Ints w v L) (hm : L.length < 9223372036854775807) :
    Calls Tryz.prog 76 #[v, .func (.func 114) #[] #[]] w (Ret fun v w' => v = .bool (decide (∃ n, n ∈ L ∧ ¬ (0 ≤ n ∧ n ≤ 9))) ∧ w' = w) := by
  obtain ⟨q, c, rfl, hqc⟩ := h.slice
  refine calls_of_wc (args := [.slice q L.length c, .func (.func 114) #[] #[]]) Tryz.func76 rfl ?_ ?_; kernel_rfl
  repeat' (first|refine za ?_|refine zA ?_|refine zB ?_|refine zb ?_|refine zc ?_|refine ze ?_|refine zd ?_)
  (refine r_call (R := ?_) rfl ?_ ?_; rotate_left 1; focus exact indexFunc73 114 rfl _ L (fun n => ¬ (0 ≤ n ∧ n ≤ 9)) _ h hm (fun n w' => isTable11_any n w'))
  rintro v w' ⟨⟨r, rfl, hr⟩, rfl⟩
  repeat' (first|refine za ?_|refine zB ?_|refine zb ?_|refine ze ?_|refine r_geq rfl rfl ?_|refine zn ?_)
  refine post1 (v := .bool (decide (0 ≤ r))) rfl rfl ?_
  refine ⟨congrArg Value.bool (decide_eq_decide.2 ⟨fun h0 => ?_, fun ⟨n, hn, hp⟩ => ?_⟩), rfl⟩
  · rcases hr with ⟨rfl, _⟩ | ⟨i, hi, rfl, hp⟩
    · omega
    · exact ⟨L.getD i 0, getD_mem hi, hp⟩
  · rcases hr with ⟨rfl, hall⟩ | ⟨i, hi, rfl, _⟩
    · obtain ⟨i, hi, rfl⟩ := List.getElem_of_mem hn
      exact absurd hp (by have := hall i hi; simp only [getD_lt hi] at this; exact this)
    · omega
def badRow (n : Nat) (l : List Int) : Prop := l.length ≠ n ∨ ∃ x, x ∈ l ∧ ¬ (0 ≤ x ∧ x ≤ 9)
instance (n : Nat) (l : List Int) : Decidable (badRow n l) := by unfold badRow; infer_instance
set_option maxHeartbeats 400000 in
theorem isTable1_any (v : Value) (L : List Int) (b n c : Nat) (q : Option Addr) (w : World) (h : Ints w v L) (hm : L.length < 9223372036854775807) (hb : Box w b 35 (.slice q n c)) :
    Calls Tryz.prog 113 #[v, .pointer (some ⟨b, 0, none⟩)] w (Ret fun v w' => v = .bool (decide (badRow n L)) ∧ w' = w) := by
  obtain ⟨q', c', rfl, hqc⟩ := h.slice
  refine calls_of_wc (args := [.slice q' L.length c', .pointer (some ⟨b, 0, none⟩)]) Tryz.func113 rfl ?_ ?_; kernel_rfl
  have hrd := hb.rd
  repeat' (first|refine za ?_|refine zA ?_|refine zB ?_|refine zb ?_|refine zc ?_|refine ze ?_|refine zd ?_|refine r_neq rfl rfl ?_|refine zK ?_|refine zM ?_|refine zQ ?_|refine zU ?_|refine zV ?_|refine zu (fun hcd => ?_) (fun hcd => ?_)|refine zn ?_)
  · (refine r_call (R := ?_) rfl ?_ ?_; rotate_left 1; focus exact containsFunc66 _ L _ h hm)
    rintro v w' ⟨rfl, rfl⟩
    repeat' (first|refine za ?_|refine zB ?_|refine zb ?_|refine ze ?_|refine zR ?_|refine zn ?_)
    refine post1 (v := .bool (decide (∃ n, n ∈ L ∧ ¬ (0 ≤ n ∧ n ≤ 9)))) rfl rfl ?_
    exact ⟨congrArg Value.bool (decide_eq_decide.2 ⟨.inr, fun h => h.resolve_left (by omega)⟩), rfl⟩
  · refine post1 (v := .bool true) rfl rfl ?_
    exact ⟨congrArg Value.bool (decide_eq_true (.inl (by omega))).symm, rfl⟩
set_option maxHeartbeats 400000 in
theorem indexFunc72 (v : Value) (T : List (List Int)) (b n c : Nat) (q : Option Addr) (w : World) (h : Tab w v T) (hm : T.length < 9223372036854775807) (hm2 : ∀ l ∈ T, l.length < 9223372036854775807) (hb : Box w b 35 (.slice q n c)) :
    Calls Tryz.prog 145 #[v, .func (.func 113) #[] #[.pointer (some ⟨b, 0, none⟩)]] w (Ret fun v w' => IdxF T.length (fun i => badRow n (T.getD i [])) v ∧ w' = w) := by
  obtain ⟨q1, c1, rfl, hqc⟩ := h.slice
  refine calls_of_wc (args := [.slice q1 T.length c1, .func (.func 113) #[] #[.pointer (some ⟨b, 0, none⟩)]]) Tryz.func145 rfl ?_ ?_; kernel_rfl
  repeat' (first|refine za ?_|refine zA ?_|refine zB ?_|refine zb ?_|refine zc ?_|refine ze ?_|refine zd ?_|refine zK ?_|refine zl ?_)
  refine wc_loop [0, 1, 7] (fun (k : Nat) => [(8, .int .i64 k)]) (fun k wk => wk = w ∧ k ≤ T.length ∧ ∀ i, i < k → ¬ badRow n (T.getD i [])) (fun k => T.length - k) 0 rfl ⟨rfl, trivial⟩ ⟨rfl, by omega, by intro i hi; omega⟩ ?_
  rintro k wk x ⟨rfl, hk, hall⟩
  repeat' (first|refine za ?_|refine zA ?_|refine zB ?_|refine zb ?_|refine zc ?_|refine ze ?_|refine zd ?_|refine r_lss rfl rfl ?_|refine zv (fun hcd => ?_) (fun hcd => ?_)|refine zk ?_|refine zl ?_|refine zm ?_|refine zn ?_|refine zg ?_|refine zj ?_)
  · have hps := h.isSome (by omega)
    obtain ⟨q2, m2, hrd, hL⟩ := h.rd (i := k) (by omega)
    repeat' (first|refine za ?_|refine zL ?_|refine zM ?_)
    refine r_callV (cap := [.pointer (some ⟨b, 0, none⟩)]) rfl rfl (isTable1_any _ _ b n c q _ hL (hm2 _ (getD_mem (by omega))) hb) ?_
    rintro v' w' ⟨rfl, rfl⟩
    repeat' (first|refine za ?_|refine zA ?_|refine zB ?_|refine zb ?_|refine zc ?_|refine ze ?_|refine zd ?_|refine zI ?_|refine zv (fun hcd => ?_) (fun hcd => ?_)|refine zk ?_|refine zn ?_|refine zf ?_|refine zh ?_|refine zi ?_)
    · refine post1 (v := .int .i64 (k : Int)) rfl rfl ?_
      exact ⟨⟨k, rfl, .inr ⟨k, by omega, rfl, by assumption⟩⟩, rfl⟩
    · refine ⟨k + 1, ⟨rfl, trivial⟩, ⟨rfl, by omega, fun i hi => ?_⟩, by omega⟩
      by_cases hik : i = k
      · subst hik; assumption
      · exact hall i (by omega)
  · refine post1 (v := .int .i64 (-1)) rfl rfl ?_
    exact ⟨⟨-1, rfl, .inl ⟨rfl, fun i hi => hall i (by omega)⟩⟩, rfl⟩
set_option maxHeartbeats 400000 in
theorem containsFunc64 (v : Value) (T : List (List Int)) (b n c : Nat) (q : Option Addr) (w : World) (h : Tab w v T) (hm : T.length < 9223372036854775807) (hm2 : ∀ l ∈ T, l.length < 9223372036854775807) (hb : Box w b 35 (.slice q n c)) :
    Calls Tryz.prog 112 #[v, .func (.func 113) #[] #[.pointer (some ⟨b, 0, none⟩)]] w (Ret fun v w' => v = .bool (decide (∃ l, l ∈ T ∧ badRow n l)) ∧ w' = w) := by
  obtain ⟨q1, c1, rfl, hqc⟩ := h.slice
  refine calls_of_wc (args := [.slice q1 T.length c1, .func (.func 113) #[] #[.pointer (some ⟨b, 0, none⟩)]]) Tryz.func112 rfl ?_ ?_; kernel_rfl
  repeat' (first|refine za ?_|refine zA ?_|refine zB ?_|refine zb ?_|refine zc ?_|refine ze ?_|refine zd ?_)
  (refine r_call (R := ?_) rfl ?_ ?_; rotate_left 1; focus exact indexFunc72 _ T b n c q _ h hm hm2 hb)
  rintro v w' ⟨⟨r, rfl, hr⟩, rfl⟩
  repeat' (first|refine za ?_|refine zB ?_|refine zb ?_|refine ze ?_|refine r_geq rfl rfl ?_|refine zn ?_)
  refine post1 (v := .bool (decide (0 ≤ r))) rfl rfl ?_
  refine ⟨congrArg Value.bool (decide_eq_decide.2 ⟨fun h0 => ?_, fun ⟨n, hn, hp⟩ => ?_⟩), rfl⟩
  · rcases hr with ⟨rfl, _⟩ | ⟨i, hi, rfl, hp⟩
    · omega
    · exact ⟨T.getD i [], getD_mem hi, hp⟩
  · rcases hr with ⟨rfl, hall⟩ | ⟨i, hi, rfl, _⟩
    · obtain ⟨i, hi, rfl⟩ := List.getElem_of_mem hn
      exact absurd hp (by have := hall i hi; simp only [getD_lt hi] at this; exact this)
    · omega
/-- A table. -/
def IsTab (T : List (List Int)) : Prop := T.length ≤ 10 ∧ ∀ l, l ∈ T → l.length = T.length ∧ ∀ x, x ∈ l → 0 ≤ x ∧ x ≤ 9
instance (T : List (List Int)) : Decidable (IsTab T) := by unfold IsTab; infer_instance
theorem isTab_iff (T : List (List Int)) : IsTab T ↔ T.length ≤ 10 ∧ ¬ ∃ l, l ∈ T ∧ badRow T.length l := by
  unfold IsTab badRow
  refine and_congr_right fun _ => ⟨fun h ⟨l, hl, hb⟩ => ?_, fun h l hl => ?_⟩
  · rcases hb with hb | ⟨x, hx, hb⟩
    · exact hb (h l hl).1
    · exact hb ((h l hl).2 x hx)
  · refine ⟨Decidable.byContradiction fun hb => h ⟨l, hl, .inl hb⟩, fun x hx => Decidable.byContradiction fun hb => h ⟨l, hl, .inr ⟨x, hx, hb⟩⟩⟩
set_option maxHeartbeats 400000 in
theorem isTable_any (v : Value) (T : List (List Int)) (w : World) (h : Tab w v T) (hm : T.length < 9223372036854775807) (hm2 : ∀ l ∈ T, l.length < 9223372036854775807) :
    Calls Tryz.prog 67 #[v] w (Ret fun v w' => v = .bool (decide (IsTab T)) ∧ Ext w w') := by
  obtain ⟨q1, c1, rfl, hqc⟩ := h.slice
  refine calls_of_wc (args := [.slice q1 T.length c1]) Tryz.func67 rfl ?_ ?_; kernel_rfl
  repeat' (first|refine za ?_|refine zc ?_|refine zd ?_)
  refine r_box rfl rfl fun w1 hb hE _ => ?_
  have hrd := hb.rd
  repeat' (first|refine za ?_|refine zA ?_|refine zB ?_|refine zb ?_|refine zc ?_|refine ze ?_|refine zd ?_|refine r_leq rfl rfl ?_|refine zK ?_|refine zM ?_|refine zR ?_|refine zU ?_|refine zV ?_|refine zt (fun hcd => ?_) (fun hcd => ?_)|refine zn ?_)
  · refine r_mkfn ?_
    repeat' (refine zU ?_)
    (refine r_call (R := ?_) rfl ?_ ?_; rotate_left 1; focus exact containsFunc64 _ T _ T.length c1 q1 _ (h.ext hE) hm hm2 hb)
    rintro v w' ⟨rfl, rfl⟩
    repeat' (first|refine za ?_|refine zB ?_|refine zb ?_|refine ze ?_|refine zN ?_|refine zQ ?_|refine zU ?_|refine zn ?_)
    refine post1 (v := .bool (decide ¬ (∃ l, l ∈ T ∧ badRow T.length l))) rfl rfl ?_
    exact ⟨congrArg Value.bool (decide_eq_decide.2 ⟨fun h => (isTab_iff T).2 ⟨by omega, h⟩, fun h => ((isTab_iff T).1 h).2⟩), hE⟩
  · refine post1 (v := .bool false) rfl rfl ?_
    exact ⟨congrArg Value.bool (decide_eq_false fun h => by have := h.1; omega).symm, hE⟩
end Pp
end Go.Proofs.YtocgehoffdjijaaGreat
/- posts: Permanent. -/
namespace Go.Proofs.YtocgehoffdjijaaGreat
namespace Pp
set_option maxRecDepth 20000
open Gv PM
theorem mp71 : mapT Tryz.prog 207 = some (3, 3, .int .i64 0) := by kernel_rfl
theorem ki3 : KeyOf Tryz.prog 3 encI := key_int Tryz.underlying3
def HoldsI (F : Int → Option Value) (p : Nat → Int) (n : Nat) : Prop :=
  (∀ k, (F k).isSome = true → ∃ S : Nat, k = S ∧ S < 2 ^ n) ∧ ∀ S : Nat, (F (S : Int)).getD (.int .i64 0) = .int .i64 (p S)
theorem HoldsI.at {F : Int → Option Value} {p : Nat → Int} {n : Nat} (h : HoldsI F p n) {S : Nat} {v : Value} (hv : F (S : Int) = some v) : v = .int .i64 (p S) := by
  have := h.2 S; rw [hv] at this; exact this
theorem HoldsI.mem {F : Int → Option Value} {p : Nat → Int} {n : Nat} (h : HoldsI F p n) {S : Nat} (hp : p S ≠ 0) : (F (S : Int)).isSome = true := by
  have h2 := h.2 S
  cases hF : F (S : Int) with
  | some v => rfl
  | none =>
    rw [hF] at h2
    simp only [Option.getD_none, Value.int.injEq, true_and] at h2
    exact absurd h2.symm hp
theorem HoldsI.set {F : Int → Option Value} {p p' : Nat → Int} {n S0 : Nat} {a : Int} (h : HoldsI F p n) (hS : S0 < 2 ^ n) (hp : ∀ S, p' S = if S = S0 then a else p S) :
    HoldsI (fun k => if k = (S0 : Int) then some (.int .i64 a) else F k) p' n := by
  refine ⟨fun k hk => ?_, fun S => ?_⟩
  · by_cases e : k = (S0 : Int)
    · exact ⟨S0, e, hS⟩
    · simp only [if_neg e] at hk; exact h.1 k hk
  · rw [hp S]
    by_cases e : S = S0
    · subst e; simp
    · have e' : ¬ (S : Int) = (S0 : Int) := by omega
      simp only [if_neg e', if_neg e]; exact h.2 S
theorem HoldsI.congr {F : Int → Option Value} {p p' : Nat → Int} {n : Nat} (h : HoldsI F p n) (hp : ∀ S, p' S = p S) : HoldsI F p' n := ⟨h.1, fun S => by rw [hp S]; exact h.2 S⟩
/-- A table's numbers. -/
def ent (T : List (List Int)) (i c : Nat) : Int := (T.getD i []).getD c 0
theorem ent_ok {T : List (List Int)} (h : IsTab T) {i c : Nat} (hi : i < T.length) (hc : c < T.length) : 0 ≤ ent T i c ∧ ent T i c ≤ 9 := by
  have h1 := h.2 _ (getD_mem (d := []) hi)
  exact h1.2 _ (getD_mem (by omega))
set_option maxHeartbeats 1000000 in
theorem permanent_any (v : Value) (T : List (List Int)) (w : World) (h : Tab w v T) (hm : T.length < 9223372036854775807) (hm2 : ∀ l ∈ T, l.length < 9223372036854775807) :
    Calls Tryz.prog 96 #[v] w (Ret fun v w' => v = (if IsTab T then .tuple #[.int .i64 (pmI (ent T) T.length T.length (2 ^ T.length - 1)), .int .i64 0] else .tuple #[.int .i64 0, .int .i64 2]) ∧ Ext w w') := by
  obtain ⟨q, c0, rfl, hqc⟩ := h.slice
  refine calls_of_wc (args := [.slice q T.length c0]) Tryz.func96 rfl ?_ ?_; kernel_rfl
  repeat' (first|refine za ?_|refine zA ?_|refine zB ?_|refine zb ?_|refine zc ?_|refine ze ?_|refine zd ?_)
  (refine r_call (R := ?_) rfl ?_ ?_; rotate_left 1; focus exact isTable_any _ T _ h hm hm2)
  rintro v w1 ⟨rfl, hE1⟩
  repeat' (first|refine za ?_|refine zB ?_|refine zb ?_|refine zc ?_|refine ze ?_|refine zd ?_|refine zN ?_|refine zv (fun hcd => ?_) (fun hcd => ?_)|refine zk ?_|refine zn ?_|refine zf ?_)
  · refine post2 (v1 := .int .i64 0) (v2 := .int .i64 2) rfl rfl rfl ?_
    exact ⟨by rw [if_neg hcd], hE1⟩
  have hT : IsTab T := Decidable.not_not.1 hcd
  have hn : T.length ≤ 10 := hT.1
  have hrow : ∀ i, i < T.length → (T.getD i []).length = T.length := fun i hi => (hT.2 _ (getD_mem hi)).1
  refine r_makeMap encI fun w2 hM2 hE2 hs2 => ?_
  repeat' (refine za ?_)
  refine r_insert (k := (0 : Int)) (v := .int .i64 1) mp71 ki3 hM2 rfl rfl rfl fun w3 hM3 hC3 hs3 => ?_
  have hE3 : Ext w w3 := Ch.trans' (hE1.trans hE2) hC3 fun k hk e => by subst e; have := hE1.size; omega
  repeat' (first|refine za ?_|refine zA ?_|refine zB ?_|refine zb ?_|refine zc ?_|refine ze ?_|refine zd ?_|refine zK ?_|refine zl ?_)
  refine wc_loop2 [0, 17, 18] (fun (i : Nat) (b : Nat) => [(19, .int .i64 i), (4, .map (some b))])
    (fun i b wk => i ≤ T.length ∧ w.heap.size ≤ b ∧ Ext w wk ∧ ∃ F, MapF encI wk b F ∧ HoldsI F (pmI (ent T) T.length i) T.length) (fun i _ => T.length - i) 0 w1.heap.size rfl ⟨rfl, rfl, trivial⟩
    ⟨by omega, hE1.size, hE3, _, hM3, ?_, ?_⟩ ?_
  · intro k hk
    by_cases e : k = 0
    · exact ⟨0, e, Nat.two_pow_pos _⟩
    · simp [e] at hk
  · intro S
    by_cases e : S = 0
    · subst e; simp [pmI]
    · have e' : ¬ (S : Int) = 0 := by omega
      simp [pmI, e]
  rintro i b wk x ⟨hi, hb, hE, F, hF, hH⟩
  repeat' (first|refine za ?_|refine zA ?_|refine zb ?_|refine zc ?_|refine ze ?_|refine zd ?_|refine r_lss rfl rfl ?_|refine zK ?_|refine zv (fun hcd => ?_) (fun hcd => ?_)|refine zk ?_|refine zl ?_|refine zm ?_|refine zg ?_|refine zj ?_)
  rotate_left 1
  · -- behind the loop
    have hni : i = T.length := by omega
    subst hni
    have h1 : (1 : Nat) <<< T.length < 2 ^ 63 := by rw [Nat.one_shiftLeft]; exact Nat.pow_lt_pow_right (by decide) (by omega)
    have h2 := Nat.two_pow_pos T.length
    have h3 : (1 : Nat) <<< T.length = 2 ^ T.length := Nat.one_shiftLeft _
    refine r_shl (m := 1) rfl rfl (by omega) h1 ?_
    repeat' (first|refine za ?_|refine zJ ?_)
    have h4 : (((1 : Nat) <<< T.length : Nat) : Int) - 1 = ((2 ^ T.length - 1 : Nat) : Int) := by rw [h3]; omega
    refine r_lookup (k := (((1 : Nat) <<< T.length : Nat) : Int) - 1) (v := .int .i64 (pmI (ent T) T.length T.length (2 ^ T.length - 1))) mp71 ki3 hF rfl rfl (by rw [h4]; exact hH.2 _) ?_
    repeat' (first|refine za ?_|refine zB ?_|refine zb ?_|refine ze ?_|refine zn ?_)
    refine post2 (v1 := .int .i64 (pmI (ent T) T.length T.length (2 ^ T.length - 1))) (v2 := .int .i64 0) rfl rfl rfl ?_
    exact ⟨by rw [if_pos hT], hE⟩
  have hiT : i < T.length := by omega
  have hR := h.ext hE
  have hps := hR.isSome (by omega)
  obtain ⟨q2, m2, hrd0, hL0⟩ := h.rd hiT
  have hrd := rd_ext hrd0 hE
  repeat' (first|refine za ?_|refine zB ?_|refine zb ?_|refine zc ?_|refine ze ?_|refine zd ?_|refine zL ?_|refine zM ?_)
  refine r_makeMap encI fun w4 hM4 hE4 hs4 => ?_
  repeat' (first|refine za ?_|refine zA ?_|refine zB ?_|refine zb ?_|refine zc ?_|refine ze ?_|refine zd ?_)
  refine r_range mp71 (hF.ext hE4) rfl fun w5 left hI5 hl5 hE5 hs5 => ?_
  repeat' (first|refine zb ?_|refine ze ?_|refine zl ?_)
  have hlen := hrow i hiT
  have hA : ∀ j c, j < i + 1 → c < T.length → 0 ≤ ent T j c ∧ ent T j c ≤ 9 := fun j c hj hc => ent_ok hT (by omega) hc
  have hbn : b < wk.heap.size := hF.lt
  refine wc_loop [0, 4, 6, 7, 17, 18, 19, 25] (fun (_ : List Int) => []) (fun left wk2 => (∃ cur, IterF encI wk2 w4.heap.size b F left cur) ∧ (∃ G, MapF encI wk2 wk.heap.size G ∧ HoldsI G (psum (ent T) T.length i left 0 0) T.length) ∧ Ext w wk2)
    (fun left => left.length) left rfl trivial ⟨⟨none, hI5⟩, ⟨_, (hM4.ext hE5), ⟨fun k hk => (by cases hk), fun S => ?_⟩⟩, (hE.trans hE4).trans hE5⟩ ?_
  · have := psum_start (A := ent T) (n := T.length) (i := i) (L := left) (u := 0) (S := S) fun S hS => (hl5 _).2 (hH.mem hS)
    rw [this]; rfl
  rintro left2 wk2 x2 ⟨⟨cur, hI⟩, ⟨G, hG, hHG⟩, hEk⟩
  have hwk : w.heap.size ≤ wk.heap.size := hE.size
  have hnn : ∀ S, 0 ≤ pmI (ent T) T.length i S := fun S => pmI_nonneg S fun j c hj hc => (hA j c (by omega) hc).1
  repeat' (first|refine za ?_|refine zc ?_|refine zd ?_)
  refine r_next hI rfl (fun hl0 => ?_) (fun k v wk3 hk hv hI3 hC3 hs3 => ?_)
  · -- the sets are all behind us
    subst hl0
    repeat' (first|refine za ?_|refine zA ?_|refine zB ?_|refine zb ?_|refine zc ?_|refine ze ?_|refine zd ?_|refine zI ?_|refine zS ?_|refine zY ?_|refine zm ?_|refine zg ?_|refine zj ?_|refine zh ?_)
    refine ⟨i + 1, wk.heap.size, ⟨rfl, rfl, trivial⟩, ⟨by omega, hwk, hEk, G, hG, hHG.congr fun S => psum_all.symm⟩, by omega⟩
  obtain ⟨u, rfl, hu⟩ := hH.1 k (by rw [hv]; rfl)
  have hvv := hH.at hv
  subst hvv
  have hEk3 : Ext w wk3 := Ch.trans' hEk hC3 fun k hk e => by omega
  have hG3 := hG.keep hC3 (by omega)
  repeat' (first|refine za ?_|refine zb ?_|refine zc ?_|refine ze ?_|refine zd ?_|refine zS ?_|refine zX ?_|refine zk ?_|refine zl ?_)
  refine r_entry hI3 hv rfl ?_
  repeat' (first|refine za ?_|refine zA ?_|refine zB ?_|refine zb ?_|refine zc ?_|refine ze ?_|refine zd ?_|refine zK ?_|refine zS ?_|refine zl ?_)
  have hEw : Ext wk wk2 → True := fun _ => trivial
  refine wc_loop [0, 4, 6, 7, 8, 9, 17, 18, 19, 25, 31, 32] (fun (c : Nat) => [(33, .int .i64 c)]) (fun c wk4 => c ≤ T.length ∧ IterF encI wk4 w4.heap.size b F (left2.filter fun k' => decide (k' ≠ (u : Int))) (some (u : Int)) ∧
      (∃ G, MapF encI wk4 wk.heap.size G ∧ HoldsI G (psum (ent T) T.length i left2 u c) T.length) ∧ Ext w wk4)
    (fun c => T.length - c) 0 rfl ⟨rfl, trivial⟩ ⟨by omega, hI3, ⟨G, hG3, hHG.congr fun S => ?_⟩, hEk3⟩ ?_
  · unfold psum; simp
  rintro c wk4 x3 ⟨hc, hI4, ⟨G4, hG4, hHG4⟩, hE4w⟩
  have hL4 : Ints wk4 (.slice q2 (T.getD i []).length m2) (T.getD i []) := hL0.ext hE4w
  have hcell := fun (hcl : c < T.length) => hL4.rd (i := c) (by omega)
  repeat' (first|refine za ?_|refine zA ?_|refine zb ?_|refine zc ?_|refine ze ?_|refine zd ?_|refine r_lss rfl rfl ?_|refine zv (fun hcd => ?_) (fun hcd => ?_)|refine zk ?_|refine zl ?_|refine zm ?_|refine zg ?_|refine zj ?_|refine zh ?_)
  rotate_left 1
  · -- the row is at its end
    have hcn : c = T.length := by omega
    subst hcn
    skip
    refine ⟨_, trivial, ⟨⟨_, hI4⟩, ⟨G4, hG4, hHG4.congr fun S => psum_row.symm⟩, hE4w⟩, ?_⟩
    have := List.length_filter_lt_length_iff_exists (p := fun k' => decide (k' ≠ (u : Int))) (l := left2)
    exact this.2 ⟨_, hk, by simp⟩
  have hcT : c < T.length := by omega
  have hcl := hcell hcT
  have hps4 := hL4.isSome (by omega)
  have hxx : (T.getD i []).getD c 0 = ent T i c := rfl
  rw [hxx] at hcl
  have hshift : u >>> c < 2 ^ 63 := Nat.lt_of_le_of_lt (Nat.shiftRight_le u c) (Nat.lt_trans hu (Nat.pow_lt_pow_right (by decide) (by omega)))
  have hbit := testBit_shift u c
  have hEnd : (u.testBit c = true ∨ ent T i c = 0) → ∃ G, MapF encI wk4 wk.heap.size G ∧ HoldsI G (psum (ent T) T.length i left2 u (c + 1)) T.length :=
    fun h => ⟨G4, hG4, hHG4.congr fun S => psum_skip h⟩
  repeat' (first|refine za ?_|refine zA ?_|refine zB ?_|refine zb ?_|refine zc ?_|refine ze ?_|refine zd ?_|refine r_gtr rfl rfl ?_|refine zI ?_|refine zL ?_|refine zM ?_|refine zR ?_|refine zU ?_|refine zV ?_|refine zt (fun hcd => ?_) (fun hcd => ?_)|refine zY ?_|refine zk ?_|refine zh ?_)
  rotate_left 1
  · -- not positive
    refine ⟨c + 1, ⟨rfl, trivial⟩, ⟨by omega, hI4, hEnd (.inr ?_), hE4w⟩, by omega⟩
    have := (hA i c (by omega) hcT).1
    omega
  refine r_shr (m := u) rfl rfl (by omega) ?_
  repeat' (refine zU ?_)
  refine r_and (m := u >>> c) (n := 1) rfl rfl hshift (by decide) ?_
  repeat' (first|refine za ?_|refine zA ?_|refine zb ?_|refine ze ?_|refine zd ?_|refine r_eql rfl rfl ?_|refine zI ?_|refine zQ ?_|refine zU ?_|refine zv (fun hcd => ?_) (fun hcd => ?_)|refine zk ?_|refine zh ?_)
  rotate_left 1
  · -- the column is taken
    refine ⟨c + 1, ⟨rfl, trivial⟩, ⟨by omega, hI4, hEnd (.inl ?_), hE4w⟩, by omega⟩
    rw [hbit]; exact decide_eq_true (by omega)
  have hbf : u.testBit c = false := by rw [hbit]; exact decide_eq_false (by omega)
  have h1c : (1 : Nat) <<< c = 2 ^ c := Nat.one_shiftLeft _
  have h1c63 : (1 : Nat) <<< c < 2 ^ 63 := by rw [h1c]; exact Nat.pow_lt_pow_right (by decide) (by omega)
  have hor : u ||| (1 : Nat) <<< c = u + 2 ^ c := by rw [h1c]; exact or_bit hbf
  have hlt := add_bit_lt hu hcT hbf
  have hmb := mul_bounds (A := ent T) (n := T.length) (i := i) (u := u) hA hcT
  have hpb := psum_bounds (A := ent T) (n := T.length) (i := i) (L := left2) (u := u) (c := c) (S := u + 2 ^ c) hA
  have hb1 := bnd9_ten (i := i + 1) (by omega)
  have hb2 := bnd9_ten (i := i) (by omega)
  refine r_shl (m := 1) rfl rfl (by omega) h1c63 ?_
  repeat' (refine za ?_)
  refine r_or (m := u) (n := (1 : Nat) <<< c) rfl rfl (Nat.lt_trans hu (Nat.pow_lt_pow_right (by decide) (by omega))) h1c63 ?_
  rw [hor]
  repeat' (refine za ?_)
  refine r_lookup (k := ((u + 2 ^ c : Nat) : Int)) (v := .int .i64 (psum (ent T) T.length i left2 u c (u + 2 ^ c))) mp71 ki3 hG4 rfl rfl (hHG4.2 _) ?_
  repeat' (first|refine za ?_|refine zA ?_)
  refine r_mul_in rfl rfl (by omega) ?_
  repeat' (first|refine za ?_|refine zI ?_)
  refine r_mapUpdate (k := ((u + 2 ^ c : Nat) : Int)) (v := .int .i64 (psum (ent T) T.length i left2 u c (u + 2 ^ c) + pmI (ent T) T.length i u * ent T i c)) mp71 ki3 hG4 rfl rfl rfl fun w6 hG6 hC6 hs6 => ?_
  repeat' (first|refine za ?_|refine zA ?_|refine zb ?_|refine ze ?_|refine zd ?_|refine zI ?_|refine zh ?_)
  refine ⟨c + 1, ⟨rfl, trivial⟩, ⟨by omega, hI4.keep hC6 (by omega) (by omega), ⟨_, hG6, hHG4.set hlt fun S => ?_⟩, Ch.trans' hE4w hC6 fun k hk e => by omega⟩, by omega⟩
  rw [psum_hit hk hbf hcT]
  by_cases hS : S = u + 2 ^ c
  · subst hS; simp only [if_true, Int.mul_comm]
  · simp only [if_neg hS]
end Pp
end Go.Proofs.YtocgehoffdjijaaGreat
/- posts: contracts of the library's functions over ints; level; with. -/
namespace Go.Proofs.YtocgehoffdjijaaGreat
namespace Pp
set_option maxRecDepth 20000
open Gv PM
theorem el74 : elemI Tryz.prog 134 = some (27, .slice none 0 0, 1, 24) := by kernel_rfl
def maxL (L : List Int) : Int := (L.drop 1).foldl (fun a b => if b > a then b else a) (L.getD 0 0)
def minL (L : List Int) : Int := (L.drop 1).foldl (fun a b => if b < a then b else a) (L.getD 0 0)
theorem take_drop_succ {L : List Int} {k : Nat} (h : k < L.length) (h1 : 1 ≤ k) : (L.take (k + 1)).drop 1 = (L.take k).drop 1 ++ [L.getD k 0] := by
  rw [List.take_succ_eq_append_getElem h, List.drop_append, getD_lt h]
  have : (L.take k).length = k := by simp; omega
  rw [this, show 1 - k = 0 by omega]
  simp
set_option maxHeartbeats 400000 in
theorem max_any (v : Value) (L : List Int) (w : World) (h : Ints w v L) (h1 : 1 ≤ L.length) (hm : L.length < 9223372036854775807) :
    Calls Tryz.prog 73 #[v] w (Ret fun v w' => v = .int .i64 (maxL L) ∧ w' = w) := by
  obtain ⟨q, c, rfl, hqc⟩ := h.slice
  refine calls_of_wc (args := [.slice q L.length c]) Tryz.func73 rfl ?_ ?_; kernel_rfl
  have hps := h.isSome (by omega)
  have hr0 := h.rd (i := 0) (by omega)
  repeat' (first|refine za ?_|refine zA ?_|refine zB ?_|refine zb ?_|refine zc ?_|refine ze ?_|refine zd ?_|refine r_lss rfl rfl ?_|refine zK ?_|refine zL ?_|refine zM ?_|refine zv (fun hcd => ?_) (fun hcd => ?_)|refine zk ?_|refine zl ?_)
  · omega
  refine wc_loop2 [0] (fun (k : Nat) (a : Int) => [(4, .int .i64 k), (3, .int .i64 a)]) (fun k a wk => wk = w ∧ 1 ≤ k ∧ k ≤ L.length ∧ a = ((L.take k).drop 1).foldl (fun a b => if b > a then b else a) (L.getD 0 0)) (fun k _ => L.length - k) 1 (L.getD 0 0) rfl ⟨rfl, rfl, trivial⟩
    ⟨rfl, by omega, by omega, by cases L with | nil => rfl | cons a l => simp⟩ ?_
  rintro k a wk x ⟨rfl, hk1, hk2, ha⟩
  have hrk := fun (hk : k < L.length) => h.rd (i := k) hk
  repeat' (first|refine za ?_|refine zA ?_|refine zB ?_|refine zb ?_|refine zc ?_|refine ze ?_|refine zd ?_|refine r_lss rfl rfl ?_|refine zK ?_|refine zL ?_|refine zv (fun hcd => ?_) (fun hcd => ?_)|refine zk ?_|refine zl ?_|refine zm ?_|refine zn ?_|refine zg ?_|refine zj ?_)
  · have hr := hrk (by omega)
    repeat' (first|refine za ?_|refine zM ?_)
    refine r_max rfl rfl rfl ?_
    repeat' (first|refine za ?_|refine zA ?_|refine zB ?_|refine zb ?_|refine ze ?_|refine zd ?_|refine zI ?_|refine zh ?_)
    refine ⟨k + 1, _, ⟨rfl, rfl, trivial⟩, ⟨rfl, by omega, by omega, ?_⟩, by omega⟩
    rw [take_drop_succ (by omega) hk1, List.foldl_append, ← ha]
    rfl
  · refine post1 (v := .int .i64 a) rfl rfl ?_
    have : k = L.length := by omega
    subst this
    rw [List.take_length] at ha
    exact ⟨by rw [ha]; rfl, rfl⟩
set_option maxHeartbeats 400000 in
theorem min_any (v : Value) (L : List Int) (w : World) (h : Ints w v L) (h1 : 1 ≤ L.length) (hm : L.length < 9223372036854775807) :
    Calls Tryz.prog 115 #[v] w (Ret fun v w' => v = .int .i64 (minL L) ∧ w' = w) := by
  obtain ⟨q, c, rfl, hqc⟩ := h.slice
  refine calls_of_wc (args := [.slice q L.length c]) Tryz.func115 rfl ?_ ?_; kernel_rfl
  have hps := h.isSome (by omega)
  have hr0 := h.rd (i := 0) (by omega)
  repeat' (first|refine za ?_|refine zA ?_|refine zB ?_|refine zb ?_|refine zc ?_|refine ze ?_|refine zd ?_|refine r_lss rfl rfl ?_|refine zK ?_|refine zL ?_|refine zM ?_|refine zv (fun hcd => ?_) (fun hcd => ?_)|refine zk ?_|refine zl ?_)
  · omega
  refine wc_loop2 [0] (fun (k : Nat) (a : Int) => [(4, .int .i64 k), (3, .int .i64 a)]) (fun k a wk => wk = w ∧ 1 ≤ k ∧ k ≤ L.length ∧ a = ((L.take k).drop 1).foldl (fun a b => if b < a then b else a) (L.getD 0 0)) (fun k _ => L.length - k) 1 (L.getD 0 0) rfl ⟨rfl, rfl, trivial⟩
    ⟨rfl, by omega, by omega, by cases L with | nil => rfl | cons a l => simp⟩ ?_
  rintro k a wk x ⟨rfl, hk1, hk2, ha⟩
  have hrk := fun (hk : k < L.length) => h.rd (i := k) hk
  repeat' (first|refine za ?_|refine zA ?_|refine zB ?_|refine zb ?_|refine zc ?_|refine ze ?_|refine zd ?_|refine r_lss rfl rfl ?_|refine zK ?_|refine zL ?_|refine zv (fun hcd => ?_) (fun hcd => ?_)|refine zk ?_|refine zl ?_|refine zm ?_|refine zn ?_|refine zg ?_|refine zj ?_)
  · have hr := hrk (by omega)
    repeat' (first|refine za ?_|refine zM ?_)
    refine r_min rfl rfl rfl ?_
    repeat' (first|refine za ?_|refine zA ?_|refine zB ?_|refine zb ?_|refine ze ?_|refine zd ?_|refine zI ?_|refine zh ?_)
    refine ⟨k + 1, _, ⟨rfl, rfl, trivial⟩, ⟨rfl, by omega, by omega, ?_⟩, by omega⟩
    rw [take_drop_succ (by omega) hk1, List.foldl_append, ← ha]
    rfl
  · refine post1 (v := .int .i64 a) rfl rfl ?_
    have : k = L.length := by omega
    subst this
    rw [List.take_length] at ha
    exact ⟨by rw [ha]; rfl, rfl⟩
/-- Where a number lies first. -/
def Idx (L : List Int) (a : Int) (r : Int) : Prop := (r = -1 ∧ ∀ i, i < L.length → L.getD i 0 ≠ a) ∨ ∃ i : Nat, i < L.length ∧ r = i ∧ L.getD i 0 = a ∧ ∀ j, j < i → L.getD j 0 ≠ a
set_option maxHeartbeats 400000 in
theorem index_any (v : Value) (L : List Int) (a : Int) (w : World) (h : Ints w v L) (hm : L.length < 9223372036854775807) :
    Calls Tryz.prog 128 #[v, .int .i64 a] w (Ret fun v w' => (∃ r, v = .int .i64 r ∧ Idx L a r) ∧ w' = w) := by
  obtain ⟨q, c, rfl, hqc⟩ := h.slice
  refine calls_of_wc (args := [.slice q L.length c, .int .i64 a]) Tryz.func128 rfl ?_ ?_; kernel_rfl
  repeat' (first|refine za ?_|refine zA ?_|refine zB ?_|refine zb ?_|refine zc ?_|refine ze ?_|refine zd ?_|refine zK ?_|refine zl ?_)
  refine wc_loop [0, 1, 7] (fun (k : Nat) => [(8, .int .i64 k)]) (fun k wk => wk = w ∧ k ≤ L.length ∧ ∀ i, i < k → L.getD i 0 ≠ a) (fun k => L.length - k) 0 rfl ⟨rfl, trivial⟩ ⟨rfl, by omega, by intro i hi; omega⟩ ?_
  rintro k wk x ⟨rfl, hk, hall⟩
  have hrk := fun (hk : k < L.length) => h.rd (i := k) hk
  have hps := fun (hk : 0 < L.length) => h.isSome hk
  repeat' (first|refine za ?_|refine zA ?_|refine zB ?_|refine zb ?_|refine zc ?_|refine ze ?_|refine zd ?_|refine r_lss rfl rfl ?_|refine zv (fun hcd => ?_) (fun hcd => ?_)|refine zk ?_|refine zl ?_|refine zm ?_|refine zn ?_|refine zg ?_|refine zj ?_)
  · have hr := hrk (by omega)
    have hps' := hps (by omega)
    repeat' (first|refine za ?_|refine zA ?_|refine zB ?_|refine zb ?_|refine zc ?_|refine ze ?_|refine zd ?_|refine r_eql rfl rfl ?_|refine zI ?_|refine zL ?_|refine zM ?_|refine zv (fun hcd => ?_) (fun hcd => ?_)|refine zk ?_|refine zn ?_|refine zf ?_|refine zh ?_|refine zi ?_)
    · refine post1 (v := .int .i64 (k : Int)) rfl rfl ?_
      exact ⟨⟨_, rfl, .inr ⟨k, by omega, rfl, by omega, hall⟩⟩, rfl⟩
    · refine ⟨k + 1, ⟨rfl, trivial⟩, ⟨rfl, by omega, fun i hi => ?_⟩, by omega⟩
      by_cases hik : i = k
      · subst hik; omega
      · exact hall i (by omega)
  · refine post1 (v := .int .i64 (-1)) rfl rfl ?_
    exact ⟨⟨-1, rfl, .inl ⟨rfl, fun i hi => hall i (by omega)⟩⟩, rfl⟩
set_option maxHeartbeats 400000 in
theorem contains_any (v : Value) (L : List Int) (a : Int) (w : World) (h : Ints w v L) (hm : L.length < 9223372036854775807) :
    Calls Tryz.prog 89 #[v, .int .i64 a] w (Ret fun v w' => v = .bool (decide (∃ i, i < L.length ∧ L.getD i 0 = a)) ∧ w' = w) := by
  obtain ⟨q, c, rfl, hqc⟩ := h.slice
  refine calls_of_wc (args := [.slice q L.length c, .int .i64 a]) Tryz.func89 rfl ?_ ?_; kernel_rfl
  repeat' (first|refine za ?_|refine zA ?_|refine zB ?_|refine zb ?_|refine zc ?_|refine ze ?_|refine zd ?_)
  (refine r_call (R := ?_) rfl ?_ ?_; rotate_left 1; focus exact index_any _ L a _ h hm)
  rintro v w' ⟨⟨r, rfl, hr⟩, rfl⟩
  repeat' (first|refine za ?_|refine zB ?_|refine zb ?_|refine ze ?_|refine r_geq rfl rfl ?_|refine zn ?_)
  refine post1 (v := .bool (decide (0 ≤ r))) rfl rfl ?_
  refine ⟨congrArg Value.bool (decide_eq_decide.2 ⟨fun h0 => ?_, fun ⟨i, hi, e⟩ => ?_⟩), rfl⟩
  · rcases hr with ⟨rfl, _⟩ | ⟨i, hi, rfl, e, _⟩
    · omega
    · exact ⟨i, hi, e⟩
  · rcases hr with ⟨rfl, hall⟩ | ⟨i, hi, rfl, _⟩
    · exact absurd e (hall i hi)
    · omega
set_option maxHeartbeats 400000 in
theorem clone_any (v : Value) (L : List Int) (w : World) (h : Ints w v L) (hb : L.length ≤ 17592186044416) :
    Calls Tryz.prog 82 #[v] w (Ret fun v' w' => OwnI w' w.heap.size 3 v' L ∧ Ext w w') := by
  obtain ⟨q, c, rfl, hqc⟩ := h.slice
  refine calls_of_wc (args := [.slice q L.length c]) Tryz.func82 rfl ?_ ?_; kernel_rfl
  repeat' (first|refine za ?_|refine zA ?_|refine zB ?_|refine zb ?_|refine zc ?_|refine ze ?_|refine zd ?_)
  refine r_eqnil rfl rfl rfl ?_
  repeat' (first|refine zb ?_|refine ze ?_)
  refine wc_cond_b rfl (fun hq => ?_) (fun hq => ?_)
  · repeat' (first|refine za ?_|refine zB ?_|refine zb ?_|refine zc ?_|refine ze ?_|refine zd ?_|refine zn ?_|refine zf ?_)
    refine post1 (v := .slice none 0 0) rfl rfl ?_
    have : L = [] := by
      cases L with
      | nil => rfl
      | cons a l => have := h.isSome (by simp); simp [this] at hq
    subst this
    exact ⟨World.ownsRow_nil _ _ _ _, Ext.refl _⟩
  · repeat' (first|refine za ?_|refine zc ?_|refine ze ?_|refine zd ?_|refine zk ?_)
    refine r_buildS0 el27 fun w1 h1 hE1 => ?_
    repeat' (first|refine za ?_|refine zA ?_)
    refine r_append_i (A := []) (base := w.heap.size) el27 h1 (h.ext hE1) rfl rfl (by simp; omega) hE1.size ?_
    intro v' w2 h2 h3 _ _
    repeat' (first|refine za ?_|refine zB ?_|refine zb ?_|refine ze ?_|refine zn ?_)
    refine post1 (v := v') rfl rfl ?_
    exact ⟨by simpa using h2, Ch.trans' hE1 (Ch.grown h3 (S := fun k => k = w.heap.size) (by intro k hk; cases hk; rfl)) fun k hk e => by omega⟩
end Pp
end Go.Proofs.YtocgehoffdjijaaGreat
/- posts: level, Level. -/
namespace Go.Proofs.YtocgehoffdjijaaGreat
namespace Pp
set_option maxRecDepth 20000
open Gv PM
/- Sums of rows and columns. -/
def rsum (T : List (List Int)) (r k : Nat) : Int := sumN k fun c => ent T r c
def csum (T : List (List Int)) (c k : Nat) : Int := sumN k fun r => ent T r c
def IsLevel (T : List (List Int)) : Prop := ∀ i, i < T.length → rsum T i T.length = rsum T 0 T.length ∧ csum T i T.length = rsum T 0 T.length
instance (T : List (List Int)) : Decidable (IsLevel T) := by unfold IsLevel; infer_instance
theorem sumN_le_mul {f : Nat → Int} {b : Int} : ∀ {n : Nat}, (∀ c, c < n → 0 ≤ f c ∧ f c ≤ b) → 0 ≤ sumN n f ∧ sumN n f ≤ b * n
  | 0, _ => by simp [sumN]
  | n + 1, h => by
    have := sumN_le_mul (n := n) fun c hc => h c (by omega)
    have := h n (by omega)
    simp only [sumN]
    push_cast
    rw [Int.mul_add]
    omega
theorem rsum_le {T : List (List Int)} (hT : IsTab T) {r k : Nat} (hr : r < T.length) (hk : k ≤ T.length) : 0 ≤ rsum T r k ∧ rsum T r k ≤ 90 := by
  have h := sumN_le_mul (n := k) (f := fun c => ent T r c) (b := 9) fun c hc => ent_ok hT hr (by omega)
  have := hT.1
  unfold rsum; omega
theorem csum_le {T : List (List Int)} (hT : IsTab T) {c k : Nat} (hr : c < T.length) (hk : k ≤ T.length) : 0 ≤ csum T c k ∧ csum T c k ≤ 90 := by
  have h := sumN_le_mul (n := k) (f := fun r => ent T r c) (b := 9) fun r hr' => ent_ok hT (by omega) hr
  have := hT.1
  unfold csum; omega
/-- The sums behind i rows and k numbers of the next one. -/
def SumsAt (T : List (List Int)) (i k : Nat) (L : List Int) : Prop :=
  L.length = 2 * T.length ∧ (∀ r, r < T.length → L.getD r 0 = if r < i then rsum T r T.length else if r = i then rsum T r k else 0) ∧
    ∀ c, c < T.length → L.getD (T.length + c) 0 = csum T c i + if c < k then ent T i c else 0
theorem getD_set {α : Type} {L : List α} {i j : Nat} {a d : α} (hi : i < L.length) : (L.set i a).getD j d = if j = i then a else L.getD j d := by
  simp only [List.getD, List.getElem?_set]
  by_cases e : i = j
  · subst e; simp [hi]
  · simp [e, Ne.symm e]
theorem foldMax_ge (l : List Int) : ∀ a, a ≤ l.foldl (fun a b => if b > a then b else a) a ∧ ∀ x, x ∈ l → x ≤ l.foldl (fun a b => if b > a then b else a) a := by
  induction l with
  | nil => intro a; simp
  | cons y l ih =>
    intro a
    simp only [List.foldl_cons, List.mem_cons]
    have h := ih (if y > a then y else a)
    refine ⟨by have := h.1; split at this <;> rename_i hc <;> split <;> omega, ?_⟩
    rintro x (rfl | hx)
    · have := h.1; split at this <;> rename_i hc <;> split <;> omega
    · exact h.2 x hx
theorem foldMin_le (l : List Int) : ∀ a, l.foldl (fun a b => if b < a then b else a) a ≤ a ∧ ∀ x, x ∈ l → l.foldl (fun a b => if b < a then b else a) a ≤ x := by
  induction l with
  | nil => intro a; simp
  | cons y l ih =>
    intro a
    simp only [List.foldl_cons, List.mem_cons]
    have h := ih (if y < a then y else a)
    refine ⟨by have := h.1; split at this <;> rename_i hc <;> split <;> omega, ?_⟩
    rintro x (rfl | hx)
    · have := h.1; split at this <;> rename_i hc <;> split <;> omega
    · exact h.2 x hx
theorem fold_same (l : List Int) (a : Int) (h : ∀ x, x ∈ l → x = a) : l.foldl (fun a b => if b > a then b else a) a = a ∧ l.foldl (fun a b => if b < a then b else a) a = a := by
  induction l with
  | nil => simp
  | cons y l ih =>
    have : y = a := h y List.mem_cons_self
    subst this
    simp only [List.foldl_cons, Int.lt_irrefl, if_false, gt_iff_lt]
    exact ih fun x hx => h x (List.mem_cons_of_mem _ hx)
theorem max_eq_min {L : List Int} (h : 0 < L.length) : maxL L = minL L ↔ ∀ i, i < L.length → L.getD i 0 = L.getD 0 0 := by
  cases L with
  | nil => simp at h
  | cons a l =>
    have h1 := foldMax_ge l a
    have h2 := foldMin_le l a
    have e : maxL (a :: l) = l.foldl (fun a b => if b > a then b else a) a := rfl
    have e2 : minL (a :: l) = l.foldl (fun a b => if b < a then b else a) a := rfl
    rw [e, e2]
    constructor
    · intro he i hi
      cases i with
      | zero => rfl
      | succ i =>
        have hi' : i < l.length := by simpa using hi
        have hx : l[i] ∈ l := List.getElem_mem hi'
        have := h1.2 _ hx
        have := h2.2 _ hx
        have hg : (a :: l).getD (i + 1) 0 = l[i] := by simp [List.getD, hi']
        rw [hg]
        show l[i] = a
        omega
    · intro hall
      have := fold_same l a fun x hx => by
        obtain ⟨i, hi, rfl⟩ := List.getElem_of_mem hx
        have := hall (i + 1) (by simpa using hi)
        simpa [List.getD, hi] using this
      rw [this.1, this.2]
theorem sums_level {T : List (List Int)} {L : List Int} (h : SumsAt T T.length 0 L) (hn : 0 < T.length) : maxL L = minL L ↔ IsLevel T := by
  obtain ⟨hl, hr, hc⟩ := h
  rw [max_eq_min (by omega)]
  have h0 := hr 0 hn
  rw [if_pos hn] at h0
  unfold IsLevel
  constructor
  · intro hall i hi
    have h1 := hall i (by omega)
    have h2 := hall (T.length + i) (by omega)
    rw [hr i hi, if_pos hi, h0] at h1
    rw [hc i hi, h0] at h2
    simp at h2
    exact ⟨h1, h2⟩
  · intro hall i hi
    by_cases hi' : i < T.length
    · rw [hr i hi', if_pos hi', h0]; exact (hall i hi').1
    · have := hc (i - T.length) (by omega)
      rw [show T.length + (i - T.length) = i by omega] at this
      rw [this, h0]
      have := (hall (i - T.length) (by omega)).2
      simp [this]
theorem sums_step {T : List (List Int)} {i k : Nat} {L : List Int} (h : SumsAt T i k L) (hi : i < T.length) (hk : k < T.length) :
    SumsAt T i (k + 1) ((L.set i (rsum T i k + ent T i k)).set (T.length + k) (csum T k i + ent T i k)) := by
  obtain ⟨hl, hr, hc⟩ := h
  refine ⟨by simpa using hl, fun r hr' => ?_, fun c hc' => ?_⟩
  · rw [getD_set (by simp; omega), if_neg (by omega), getD_set (by omega), hr r hr']
    by_cases e : r = i
    · subst e; simp [rsum, sumN]
    · simp [e]
  · rw [getD_set (by simp; omega), getD_set (by omega)]
    by_cases e : c = k
    · subst e; simp
    · rw [if_neg (by omega), if_neg (by omega), hc c hc']
      have : c < k + 1 ↔ c < k := by omega
      simp only [this]
theorem sums_row {T : List (List Int)} {i : Nat} {L : List Int} (h : SumsAt T i T.length L) : SumsAt T (i + 1) 0 L := by
  obtain ⟨hl, hr, hc⟩ := h
  refine ⟨hl, fun r hr' => ?_, fun c hc' => ?_⟩
  · rw [hr r hr']
    by_cases e : r = i
    · subst e; simp
    · have : r < i + 1 ↔ r < i := by omega
      simp only [this, e, if_false]
      by_cases e2 : r < i
      · simp [e2]
      · simp only [e2, if_false]; split <;> simp [rsum, sumN]
  · rw [hc c hc', if_pos hc']; simp [csum, sumN]
set_option maxHeartbeats 1000000 in
theorem level_any (v : Value) (T : List (List Int)) (w : World) (h : Tab w v T) (hT : IsTab T) :
    Calls Tryz.prog 68 #[v] w (Ret fun v w' => v = .tuple #[.int .i64 (rsum T 0 T.length), .bool (decide (IsLevel T))] ∧ Ext w w') := by
  obtain ⟨q, c0, rfl, hqc⟩ := h.slice
  have hn := hT.1
  have hrow : ∀ i, i < T.length → (T.getD i []).length = T.length := fun i hi => (hT.2 _ (getD_mem hi)).1
  refine calls_of_wc (args := [.slice q T.length c0]) Tryz.func68 rfl ?_ ?_; kernel_rfl
  repeat' (first|refine za ?_|refine zA ?_|refine zB ?_|refine zb ?_|refine zc ?_|refine ze ?_|refine zd ?_|refine r_eql rfl rfl ?_|refine zK ?_|refine zv (fun hcd => ?_) (fun hcd => ?_)|refine zk ?_|refine zn ?_|refine zf ?_)
  · have h0 : T.length = 0 := by omega
    refine post2 (v1 := .int .i64 0) (v2 := .bool true) rfl rfl rfl ?_
    refine ⟨?_, Ext.refl _⟩
    rw [decide_eq_true (show IsLevel T from fun i hi => by omega), h0]
    rfl
  have hpos : 0 < T.length := by omega
  refine r_mul_in rfl rfl (by omega) ?_
  repeat' (refine za ?_)
  have e2 : (2 : Int) * (T.length : Int) = ((2 * T.length : Nat) : Int) := by omega
  refine r_make_i (n := 2 * T.length) el27 (congrArg (Value.int .i64) e2) (congrArg (Value.int .i64) e2) (by omega) fun w1 h1 hE1 hs1 => ?_
  repeat' (first|refine za ?_|refine zA ?_|refine zB ?_|refine zb ?_|refine zc ?_|refine ze ?_|refine zd ?_|refine zK ?_|refine zl ?_)
  refine wc_loop [0, 4, 16, 17] (fun (i : Nat) => [(18, .int .i64 i)]) (fun i wk => i ≤ T.length ∧ (∃ L, OwnI wk w.heap.size 3 (.slice (some ⟨w.heap.size, 0, none⟩) (2 * T.length) (2 * T.length)) L ∧ SumsAt T i 0 L) ∧ Ext w wk)
    (fun i => T.length - i) 0 rfl ⟨rfl, trivial⟩ ⟨by omega, ⟨_, h1, ⟨by simp, fun r hr => ?_, fun c hc => ?_⟩⟩, hE1⟩ ?_
  · by_cases e : r = 0
    · subst e; simp [List.getD, hpos, rsum, sumN]
    · simp [List.getD, List.getElem?_replicate, e]; split <;> rfl
  · simp [List.getD, List.getElem?_replicate, csum, sumN]; split <;> rfl
  rintro i wk x ⟨hi, ⟨L, hL, hS⟩, hE⟩
  repeat' (first|refine za ?_|refine zA ?_|refine zb ?_|refine zc ?_|refine ze ?_|refine zd ?_|refine r_lss rfl rfl ?_|refine zv (fun hcd => ?_) (fun hcd => ?_)|refine zk ?_|refine zl ?_|refine zm ?_|refine zg ?_|refine zj ?_)
  · have hiT : i < T.length := by omega
    obtain ⟨q2, m2, hrd0, hR0⟩ := h.rd hiT
    have hrd := rd_ext hrd0 hE
    have hps := h.isSome hpos
    have hlen := hrow i hiT
    repeat' (first|refine za ?_|refine zA ?_|refine zB ?_|refine zb ?_|refine zc ?_|refine ze ?_|refine zd ?_|refine zK ?_|refine zL ?_|refine zM ?_|refine zl ?_)
    refine wc_loop [0, 4, 5, 16, 17, 18, 23, 24] (fun (k : Nat) => [(25, .int .i64 k)]) (fun k wk => k ≤ T.length ∧ (∃ L, OwnI wk w.heap.size 3 (.slice (some ⟨w.heap.size, 0, none⟩) (2 * T.length) (2 * T.length)) L ∧ SumsAt T i k L) ∧ Ext w wk)
      (fun k => T.length - k) 0 rfl ⟨rfl, trivial⟩ ⟨by omega, ⟨L, hL, hS⟩, hE⟩ ?_
    rintro k wk2 x2 ⟨hk, ⟨L2, hL2, hS2⟩, hE2⟩
    have hR2 := hR0.ext hE2
    repeat' (first|refine za ?_|refine zA ?_|refine zb ?_|refine zc ?_|refine ze ?_|refine zd ?_|refine r_lss rfl rfl ?_|refine zI ?_|refine zv (fun hcd => ?_) (fun hcd => ?_)|refine zk ?_|refine zl ?_|refine zm ?_|refine zg ?_|refine zj ?_|refine zh ?_)
    · have hkT : k < T.length := by omega
      have hc1 := hR2.rd (i := k) (by omega)
      have hps2 := hR2.isSome (by omega)
      have hA := ent_ok hT hiT hkT
      have hrb := rsum_le hT (r := i) (k := k) hiT (by omega)
      have hcb := csum_le hT (c := k) (k := i) hkT (by omega)
      have hsl := hS2.1
      have hr1 := hL2.ints.rd (i := i) (by omega)
      have hv1 : L2.getD i 0 = rsum T i k := by rw [hS2.2.1 i hiT]; simp
      have hxx : (T.getD i []).getD k 0 = ent T i k := rfl
      rw [hxx] at hc1
      rw [hv1] at hr1
      repeat' (first|refine za ?_|refine zA ?_|refine zB ?_|refine zb ?_|refine zc ?_|refine ze ?_|refine zd ?_|refine zI ?_|refine zL ?_|refine zM ?_)
      refine r_st_i (i := i) (e := 3) (base := w.heap.size) rfl hL2 rfl rfl (by omega) fun w3 h3 hg3 hs3 => ?_
      have hC3 : Ch (fun k => w.heap.size ≤ k) wk2 w3 := Ch.grown hg3 (by intro k hk; cases hk; exact Nat.le_refl _)
      have hE3 : Ext w w3 := Ch.ext_new hE2 hC3 (Nat.le_refl _)
      have hR3 := hR0.ext hE3
      have hv2 : (L2.set i (rsum T i k + ent T i k)).getD (T.length + k) 0 = csum T k i := by
        rw [getD_set (by omega), if_neg (by omega), hS2.2.2 k hkT]; simp
      have hr2 := h3.ints.rd (i := T.length + k) (by simp; omega)
      rw [hv2] at hr2
      repeat' (first|refine za ?_|refine zA ?_|refine zb ?_|refine ze ?_|refine zd ?_|refine zI ?_|refine zK ?_|refine zL ?_|refine zM ?_)
      refine r_st_i (i := T.length + k) (e := 3) (base := w.heap.size) rfl h3 rfl rfl (by simp; omega) fun w4 h4 hg4 hs4 => ?_
      have hC4 : Ch (fun k => w.heap.size ≤ k) w3 w4 := Ch.grown hg4 (by intro k hk; cases hk; exact Nat.le_refl _)
      repeat' (first|refine za ?_|refine zA ?_|refine zb ?_|refine ze ?_|refine zd ?_|refine zI ?_|refine zh ?_)
      exact ⟨k + 1, ⟨rfl, trivial⟩, ⟨by omega, ⟨_, h4, sums_step hS2 hiT hkT⟩, Ch.ext_new hE3 hC4 (Nat.le_refl _)⟩, by omega⟩
    · have hkn : k = T.length := by omega
      subst hkn
      skip
      exact ⟨i + 1, ⟨rfl, trivial⟩, ⟨by omega, ⟨L2, hL2, sums_row hS2⟩, hE2⟩, by omega⟩
  · have hin : i = T.length := by omega
    subst hin
    have hsl := hS.1
    have hLI := hL.ints.ext (Ext.drew wk)
    have hr0 := hLI.rd (i := 0) (by omega)
    have hv0 : L.getD 0 0 = rsum T 0 T.length := by rw [hS.2.1 0 hpos, if_pos hpos]
    rw [hv0] at hr0
    (refine wc_drawn 9 (by kernel_rfl) (by kernel_rfl) ?_; simp only [List.take_succ_cons, List.take_zero, List.drop_succ_cons, List.drop_zero])
    repeat' (first|refine za ?_|refine zA ?_|refine zL ?_|refine zM ?_)
    (refine r_call_q (v := ?_) rfl ?_ ?_; rotate_left 1; focus exact max_any _ L _ hLI (by omega) (by omega))
    repeat' (first|refine za ?_|refine zA ?_)
    (refine r_call_q (v := ?_) rfl ?_ ?_; rotate_left 1; focus exact min_any _ L _ hLI (by omega) (by omega))
    repeat' (first|refine za ?_|refine zB ?_|refine zb ?_|refine ze ?_|refine r_eql rfl rfl ?_|refine zn ?_)
    refine post2 (v1 := .int .i64 (rsum T 0 T.length)) (v2 := .bool (decide (maxL L = minL L))) rfl rfl rfl ?_
    refine ⟨?_, hE.trans (Ext.drew wk)⟩
    rw [decide_eq_decide.2 (sums_level hS hpos)]
set_option maxHeartbeats 400000 in
theorem Level_any (v : Value) (T : List (List Int)) (w : World) (h : Tab w v T) (hm : T.length < 9223372036854775807) (hm2 : ∀ l ∈ T, l.length < 9223372036854775807) :
    Calls Tryz.prog 30 #[v] w (Ret fun v w' => v = (if IsTab T then (if IsLevel T then .tuple #[.int .i64 (rsum T 0 T.length), .bool true, .int .i64 0] else .tuple #[.int .i64 0, .bool false, .int .i64 0]) else .tuple #[.int .i64 0, .bool false, .int .i64 2]) ∧ Ext w w') := by
  obtain ⟨q, c0, rfl, hqc⟩ := h.slice
  refine calls_of_wc (args := [.slice q T.length c0]) Tryz.func30 rfl ?_ ?_; kernel_rfl
  repeat' (first|refine za ?_|refine zA ?_|refine zB ?_|refine zb ?_|refine zc ?_|refine ze ?_|refine zd ?_)
  (refine r_call (R := ?_) rfl ?_ ?_; rotate_left 1; focus exact isTable_any _ T _ h hm hm2)
  rintro v w1 ⟨rfl, hE1⟩
  repeat' (first|refine za ?_|refine zA ?_|refine zB ?_|refine zb ?_|refine zc ?_|refine ze ?_|refine zd ?_|refine zN ?_|refine zv (fun hcd => ?_) (fun hcd => ?_)|refine zk ?_|refine zn ?_|refine zf ?_)
  · refine post3 (v1 := .int .i64 0) (v2 := .bool false) (v3 := .int .i64 2) rfl rfl rfl rfl ?_
    exact ⟨by rw [if_neg hcd], hE1⟩
  have hT : IsTab T := Decidable.not_not.1 hcd
  (refine r_call (R := ?_) rfl ?_ ?_; rotate_left 1; focus exact level_any _ T _ (h.ext hE1) hT)
  rintro v w2 ⟨rfl, hE2⟩
  repeat' (first|refine za ?_|refine zA ?_|refine zB ?_|refine zb ?_|refine zc ?_|refine ze ?_|refine zd ?_|refine zN ?_|refine zS ?_|refine zv (fun hcd => ?_) (fun hcd => ?_)|refine zk ?_|refine zn ?_|refine zf ?_)
  · rename_i hcd2
    refine post3 (v1 := .int .i64 0) (v2 := .bool false) (v3 := .int .i64 0) rfl rfl rfl rfl ?_
    exact ⟨by rw [if_pos hT, if_neg (by assumption)], hE1.trans hE2⟩
  · refine post3 (v1 := .int .i64 (rsum T 0 T.length)) (v2 := .bool true) (v3 := .int .i64 0) rfl rfl rfl rfl ?_
    exact ⟨by rw [if_pos hT, if_pos (Decidable.not_not.1 (by assumption))], hE1.trans hE2⟩
end Pp
end Go.Proofs.YtocgehoffdjijaaGreat
/- posts: CheckSplit. -/
namespace Go.Proofs.YtocgehoffdjijaaGreat
namespace Pp
set_option maxRecDepth 20000
open Gv PM
theorem tab_row {T : List (List Int)} (hT : IsTab T) {i : Nat} (hi : i < T.length) : (T.getD i []).length = T.length ∧ ∀ x ∈ T.getD i [], 0 ≤ x ∧ x ≤ 9 := hT.2 _ (getD_mem hi)
def ChAt (T : List (List Int)) (l : List Int) (i : Nat) : Prop := 0 ≤ l.getD i 0 ∧ l.getD i 0 < T.length ∧ ent T i (l.getD i 0).toNat ≠ 0 ∧ ∀ j, j < i → l.getD j 0 ≠ l.getD i 0
instance (T : List (List Int)) (l : List Int) (i : Nat) : Decidable (ChAt T l i) := by unfold ChAt; infer_instance
/-- A possible choice, as a list. -/
def ChB (T : List (List Int)) (l : List Int) : Prop := l.length = T.length ∧ ∀ i, i < l.length → ChAt T l i
instance (T : List (List Int)) (l : List Int) : Decidable (ChB T l) := by unfold ChB; infer_instance
theorem ent_row (T : List (List Int)) (i c : Nat) : (T.getD i []).getD c 0 = ent T i c := rfl
set_option maxHeartbeats 1000000 in
theorem isChoice_any (v u : Value) (T : List (List Int)) (hT : IsTab T) (l : List Int) (w : World) (h : Tab w v T) (hl : Ints w u l) (_ : l.length < 9223372036854775807) :
    Calls Tryz.prog 70 #[v, u] w (Ret fun v w' => v = .bool (decide (ChB T l)) ∧ w' = w) := by
  have hn := hT.1
  obtain ⟨q, c0, rfl, hqc⟩ := h.slice
  obtain ⟨q2, c2, rfl, hqc2⟩ := hl.slice
  refine calls_of_wc (args := [.slice q T.length c0, .slice q2 l.length c2]) Tryz.func70 rfl ?_ ?_; kernel_rfl
  repeat' (first|refine za ?_|refine zA ?_|refine zB ?_|refine zb ?_|refine zc ?_|refine ze ?_|refine zd ?_|refine r_neq rfl rfl ?_|refine zK ?_|refine zv (fun hcd => ?_) (fun hcd => ?_)|refine zk ?_|refine zl ?_|refine zn ?_|refine zf ?_)
  · refine post1 (v := .bool false) rfl rfl ?_
    exact ⟨congrArg Value.bool (decide_eq_false fun h => by have := h.1; omega).symm, rfl⟩
  have hlT : l.length = T.length := by omega
  refine wc_loop [0, 1, 12, 13] (fun (i : Nat) => [(14, .int .i64 i)]) (fun i wk => wk = w ∧ i ≤ l.length ∧ ∀ j, j < i → ChAt T l j) (fun i => l.length - i) 0 rfl ⟨rfl, trivial⟩ ⟨rfl, by omega, fun j hj => by omega⟩ ?_
  rintro i wk x ⟨rfl, hi, hall⟩
  repeat' (first|refine za ?_|refine zA ?_|refine zB ?_|refine zb ?_|refine zc ?_|refine ze ?_|refine zd ?_|refine r_lss rfl rfl ?_|refine zv (fun hcd => ?_) (fun hcd => ?_)|refine zk ?_|refine zl ?_|refine zm ?_|refine zn ?_|refine zg ?_|refine zj ?_)
  rotate_left 1
  · refine post1 (v := .bool true) rfl rfl ?_
    exact ⟨congrArg Value.bool (decide_eq_true ⟨hlT, fun j hj => hall j (by omega)⟩).symm, rfl⟩
  have hil : i < l.length := by omega
  have hiT : i < T.length := by omega
  have hr := hl.rd (i := i) hil
  have hps2 := hl.isSome (by omega)
  have hps := h.isSome (by omega)
  obtain ⟨q3, m3, hrd, hR⟩ := h.rd hiT
  have hrl := (tab_row hT hiT).1
  have hbad : ¬ ChAt T l i → Value.bool false = Value.bool (decide (ChB T l)) ∧ wk = wk := fun hb => ⟨congrArg Value.bool (decide_eq_false fun h => hb (h.2 i hil)).symm, rfl⟩
  repeat' (first|refine za ?_|refine zA ?_|refine zB ?_|refine zb ?_|refine zc ?_|refine ze ?_|refine zd ?_|refine zJ ?_|refine zK ?_|refine zL ?_|refine zM ?_)
  (refine r_call_q (v := ?_) rfl ?_ ?_; rotate_left 1; focus exact within_any _ _ _ _)
  by_cases hx : 0 ≤ l.getD i 0 ∧ l.getD i 0 ≤ (T.length : Int) - 1
  rotate_left 1
  · repeat' (first|refine za ?_|refine zA ?_|refine zB ?_|refine zb ?_|refine zc ?_|refine ze ?_|refine zd ?_|refine zL ?_|refine zM ?_|refine zN ?_|refine zQ ?_|refine zU ?_|refine zV ?_|refine zu (fun hcd => ?_) (fun hcd => ?_)|refine zX ?_|refine zn ?_|refine zf ?_|refine zi ?_)
    · exfalso; omega
    · refine post1 (v := .bool false) rfl rfl ?_
      exact hbad fun h => hx ⟨h.1, by have := h.2.1; omega⟩
  have hps3 := hR.isSome (by omega)
  have hcell := hR.rd (i := (l.getD i 0).toNat) (by omega)
  rw [ent_row] at hcell
  repeat' (first|refine za ?_|refine zA ?_|refine zB ?_|refine zb ?_|refine zc ?_|refine ze ?_|refine zd ?_|refine r_eql rfl rfl ?_|refine zL ?_|refine zM ?_|refine zN ?_|refine zQ ?_|refine zR ?_|refine zU ?_|refine zV ?_|refine zu (fun hcd => ?_) (fun hcd => ?_)|refine zX ?_|refine zn ?_|refine zf ?_|refine zi ?_)
  · -- the number is positive
    refine r_slice_i (l := 0) (h' := i) rfl hl rfl bnd_none ⟨_, rfl⟩ (by omega) (by omega) ?_
    intro q' c' hs _ _
    have hsl : ((l.drop 0).take (i - 0)).length = i := by simp; omega
    repeat' (first|refine zA ?_|refine zU ?_)
    (refine r_call_q (v := ?_) rfl ?_ ?_; rotate_left 1; focus exact contains_any _ _ _ _ hs (by omega))
    have hct : (∃ k, k < ((l.drop 0).take (i - 0)).length ∧ ((l.drop 0).take (i - 0)).getD k 0 = l.getD i 0) ↔ ∃ k, k < i ∧ l.getD k 0 = l.getD i 0 := by
      rw [hsl]
      refine exists_congr fun k => and_congr_right fun hk => ?_
      simp [List.getD, hk]
    rw [decide_eq_decide.2 hct]
    repeat' (first|refine za ?_|refine zA ?_|refine zB ?_|refine zb ?_|refine zc ?_|refine ze ?_|refine zd ?_|refine zI ?_|refine zR ?_|refine zv (fun hcd => ?_) (fun hcd => ?_)|refine zk ?_|refine zn ?_|refine zf ?_|refine zh ?_|refine zi ?_)
    · refine post1 (v := .bool false) rfl rfl ?_
      exact hbad fun h => by obtain ⟨k, hk, e⟩ := hcd; exact h.2.2.2 k hk e
    · refine ⟨i + 1, ⟨rfl, trivial⟩, ⟨rfl, by omega, fun j hj => ?_⟩, by omega⟩
      by_cases e : j = i
      · subst e; exact ⟨hx.1, by omega, by assumption, fun k hk e => hcd ⟨k, hk, e⟩⟩
      · exact hall j (by omega)
  · refine post1 (v := .bool false) rfl rfl ?_
    exact hbad fun h => by have := h.2.2.1; contradiction
  · exfalso; omega
theorem arrK : Go.WideMaps.ArrKey Tryz.prog 38 3 2 := ⟨Tryz.underlying38, by kernel_rfl, by kernel_rfl, by kernel_rfl⟩
theorem kiP : KeyOf Tryz.prog 38 encP := key_pair arrK Tryz.underlying3
theorem mp88 : mapT Tryz.prog 95 = some (38, 3, .int .i64 0) := by kernel_rfl
theorem ag23 : aggT Tryz.prog 38 2 = true := by kernel_rfl
theorem el47 : elemI Tryz.prog 68 = some (70, .agg #[.int .i64 0, .slice none 0 0], 2, 32) := by kernel_rfl
theorem ag51 : aggT Tryz.prog 70 2 = true := by kernel_rfl
theorem rv_faQ {ρ : Env} {w : World} {d : Nat} {ty : TypeId} {pos : String} {aft : Array Edge} {gd : Option (Nat × Bool)} {x : Operand} {P : Program} {s k off : Nat} {q : Option Addr} (hf : fldOff P s k = some off) (hx : ev ρ x = .pointer q) (hq : q.isSome = true) :
    (execOp (ev ρ) ⟨some d, .fieldAddr s x k, ty, pos, aft, gd⟩).run P w = .ok (.value (.pointer (q.map fun p => p.add off))) w :=
  rv_of rfl (fun _ h => r_faQ hf hx hq h) fun _ _ h => val_of h
theorem rv_ext {ρ : Env} {w : World} {d : Nat} {ty : TypeId} {pos : String} {aft : Array Edge} {gd : Option (Nat × Bool)} {x : Operand} {P : Program} {vs : Array Value} {i : Nat} {v : Value} (hx : ev ρ x = .tuple vs) (hv : vs[i]? = some v) :
    (execOp (ev ρ) ⟨some d, .extract x i, ty, pos, aft, gd⟩).run P w = .ok (.value v) w := rv_of rfl (fun _ h => r_ext hx hv h) fun _ _ h => val_of h
/-- What a law's copy of layers is. -/
def cpL (x : Int × List Int) : Int × List Int := (x.1, x.2.take 12)
def copyL (L : List (Int × List Int)) : List (Int × List Int) := (L.take 101).map cpL
theorem copyL_bnd (L : List (Int × List Int)) : (copyL L).length ≤ 101 ∧ ∀ x ∈ copyL L, x.2.length ≤ 12 := by
  refine ⟨by simp [copyL]; omega, fun l hl => ?_⟩
  obtain ⟨l0, _, rfl⟩ := List.mem_map.1 hl
  simp [cpL]; omega
def lsum (L : List (Int × List Int)) (r : Nat) (c : Int) : Nat → Int
  | 0 => 0
  | k + 1 => lsum L r c k + if (L.getD k (0, [])).2.getD r 0 = c then (L.getD k (0, [])).1 else 0
theorem lsum_bnd {L : List (Int × List Int)} {r : Nat} {c : Int} : ∀ {k : Nat}, (∀ j, j < k → 0 ≤ (L.getD j (0, [])).1 ∧ (L.getD j (0, [])).1 ≤ 90) → 0 ≤ lsum L r c k ∧ lsum L r c k ≤ 90 * k
  | 0, _ => by simp [lsum]
  | k + 1, h => by
    have h1 := lsum_bnd (k := k) (r := r) (c := c) fun j hj => h j (by omega)
    have h2 := h k (by omega)
    simp only [lsum]
    split <;> omega
def maxW (T : List (List Int)) : Int := if 1 > rsum T 0 T.length then 1 else rsum T 0 T.length
def LayOk (T : List (List Int)) (x : Int × List Int) : Prop := (T.length = 0 ∨ x.1 ≤ maxW T) ∧ 1 ≤ x.1 ∧ ChB T x.2
instance (T : List (List Int)) (x : Int × List Int) : Decidable (LayOk T x) := by unfold LayOk; infer_instance
def SplitOk (T : List (List Int)) (L : List (Int × List Int)) : Prop := L.length ≤ 100 ∧ (∀ i, i < L.length → LayOk T (L.getD i (0, []))) ∧ ∀ r, r < T.length → ∀ c, c < T.length → lsum L r c L.length = ent T r c
instance (T : List (List Int)) (L : List (Int × List Int)) : Decidable (SplitOk T L) := by unfold SplitOk; infer_instance
def SumM (F : Int × Int → Option Value) (n : Nat) (p : Nat → Nat → Int) : Prop := ∀ r c : Nat, r < n → c < n → (F ((r : Int), (c : Int))).getD (.int .i64 0) = .int .i64 (p r c)
set_option maxRecDepth 20000 in
set_option maxHeartbeats 4000000 in
theorem checkSplit_any (v u : Value) (T : List (List Int)) (L : List (Int × List Int)) (w : World) (h : Tab w v T) (hl : Lays w u L) (hm : T.length < 9223372036854775807) (hm2 : ∀ l ∈ T, l.length < 9223372036854775807) (hlm : L.length ≤ 1000) (hlm2 : ∀ x ∈ L, x.2.length < 9223372036854775807) :
    Calls Tryz.prog 31 #[v, u] w (Ret fun v w' => v = (if IsTab T then (if IsLevel T then (if SplitOk T L then .int .i64 0 else .int .i64 10) else .int .i64 2) else .int .i64 2) ∧ Ext w w') := by
  obtain ⟨q, c0, rfl, hqc⟩ := h.slice
  obtain ⟨q1, c1, rfl, hqc1⟩ := hl.slice
  refine calls_of_wc_scope (args := [.slice q T.length c0, .slice q1 L.length c1]) Tryz.func31 rfl ?_ ?_
  · kernel_rfl
  repeat' (first|refine za ?_|refine zA ?_|refine zB ?_|refine zb ?_|refine zc ?_|refine ze ?_|refine zd ?_)
  (refine r_call (R := ?_) rfl ?_ ?_; rotate_left 1; focus exact isTable_any _ T _ h hm hm2)
  rintro v w1 ⟨rfl, hE1⟩
  by_cases hT : IsTab T
  rotate_left 1
  · rw [decide_eq_false hT, if_neg hT]
    repeat' (first|refine za ?_|refine zB ?_|refine zb ?_|refine zc ?_|refine ze ?_|refine zd ?_|refine zO ?_|refine zX ?_|refine zn ?_|refine zf ?_)
    refine post1 (v := .int .i64 2) rfl rfl ?_
    exact ⟨rfl, hE1⟩
  rw [decide_eq_true hT, if_pos hT]
  have hn := hT.1
  repeat' (first|refine za ?_|refine zA ?_|refine zb ?_|refine zc ?_|refine ze ?_|refine zd ?_|refine zO ?_|refine zY ?_|refine zk ?_)
  (refine r_call (R := ?_) rfl ?_ ?_; rotate_left 1; focus exact level_any _ T _ (h.ext hE1) hT)
  rintro v w2 ⟨rfl, hE2⟩
  by_cases hL : IsLevel T
  rotate_left 1
  · rw [decide_eq_false hL, if_neg hL]
    repeat' (first|refine za ?_|refine zA ?_|refine zB ?_|refine zb ?_|refine zc ?_|refine ze ?_|refine zd ?_|refine zO ?_|refine zS ?_|refine zX ?_|refine zn ?_|refine zf ?_)
    refine post1 (v := .int .i64 2) rfl rfl ?_
    exact ⟨rfl, hE1.trans hE2⟩
  rw [decide_eq_true hL, if_pos hL]
  have hE12 := hE1.trans hE2
  by_cases hl100 : L.length ≤ 100
  rotate_left 1
  · repeat' (first|refine za ?_|refine zA ?_|refine zB ?_|refine zb ?_|refine zc ?_|refine ze ?_|refine zd ?_|refine zE ?_|refine zK ?_|refine zO ?_|refine zS ?_|refine zX ?_|refine zY ?_|refine zk ?_|refine zn ?_|refine zf ?_)
    refine post1 (v := .int .i64 10) rfl rfl ?_
    exact ⟨by rw [if_neg fun h => hl100 h.1], hE12⟩
  repeat' (first|refine za ?_|refine zA ?_|refine zB ?_|refine zb ?_|refine zc ?_|refine ze ?_|refine zd ?_|refine zE ?_|refine zK ?_|refine zO ?_|refine zS ?_|refine zY ?_|refine zk ?_)
  refine r_makeMap encP fun w3 hM3 hE3 hs3 => ?_
  have hE03 := hE12.trans hE3
  have s2 := hE12.size
  repeat' (first|refine za ?_|refine zA ?_|refine zB ?_|refine zb ?_|refine zc ?_|refine ze ?_|refine zd ?_|refine zK ?_|refine zl ?_)
  have hlev : 0 < T.length → 0 ≤ rsum T 0 T.length ∧ rsum T 0 T.length ≤ 90 := fun h => rsum_le hT h (Nat.le_refl _)
  refine wc_loop [0, 1, 5, 6, 7, 30, 31] (fun (i : Nat) => [(32, .int .i64 i)]) (fun i wk => i ≤ L.length ∧ (∀ j, j < i → LayOk T (L.getD j (0, []))) ∧ Ext w wk ∧ ∃ F, MapF encP wk w2.heap.size F ∧ SumM F T.length (fun r c => lsum L r c i)) (fun i => L.length - i) 0 rfl ⟨rfl, trivial⟩
    ⟨by omega, (fun j hj => by omega), hE03, _, hM3, fun r c _ _ => rfl⟩ ?_
  rintro i wk x ⟨hi, hok, hE, F, hF, hS⟩
  repeat' (first|refine za ?_|refine zA ?_|refine zb ?_|refine zc ?_|refine ze ?_|refine zd ?_|refine zC ?_|refine zK ?_|refine zv (fun hcd => ?_) (fun hcd => ?_)|refine zk ?_|refine zl ?_|refine zm ?_|refine zg ?_|refine zj ?_|refine zs ?_)
  · -- a layer
    have hiL : i < L.length := by omega
    have hlk := hl.ext hE
    obtain ⟨g0, qc, mc, g1, hI⟩ := hlk.rd hiL
    have hps := hl.isSome (by omega)
    have hxl := hlm2 _ (getD_mem (d := (0, [])) hiL)
    obtain ⟨W, C, hWC⟩ : ∃ W C, L.getD i (0, []) = (W, C) := ⟨_, _, rfl⟩
    have hsucc : ∀ r c, lsum L r c (i + 1) = lsum L r c i + if C.getD r 0 = c then W else 0 := fun r c => by simp only [lsum, hWC]
    have hno : ¬ LayOk T (W, C) → ¬ SplitOk T L := fun h hs => h (by rw [← hWC]; exact hs.2.1 i hiL)
    rw [hWC] at g0 g1 hI hxl
    simp only at g0 g1 hI hxl
    repeat' (first|refine za ?_|refine zL ?_)
    refine r_ld2Q ag51 rfl g0 g1 ?_
    repeat' (refine za ?_)
    refine r_alloc2 (z1 := .int .i64 0) (z2 := .slice none 0 0) rfl fun w4 hb4 hE4 hs4 => ?_
    repeat' (refine za ?_)
    refine r_st2 ag51 hb4 rfl rfl rfl rfl fun w5 hb5 hC5 hs5 => ?_
    have hE5 : Ext w w5 := Ch.trans' (hE.trans hE4) hC5 fun k hk e => by have := hE.size; omega
    have hwk := hE.size
    have hFl := hF.lt
    have hF5 := (hF.ext hE4).keep hC5 (by omega)
    have hI5 : Ints w5 (.slice qc C.length mc) C := by
      have hlk5 := hl.ext hE5
      obtain ⟨g0', qc', mc', g1', hI'⟩ := hlk5.rd hiL
      rw [hWC] at g0' g1' hI'
      simp only at g0' g1' hI'
      have hold := hl.rd hiL
      obtain ⟨g0o, qo, mo, g1o, hIo⟩ := hold
      rw [hWC] at g0o g1o hIo
      simp only at g0o g1o hIo
      have e1 := rd_ext g1o hE
      rw [g1] at e1
      injection e1 with e1
      rw [e1]
      exact hIo.ext hE5
    have gw := hb5.rd (k := 0) rfl
    have gc := hb5.rd (k := 1) rfl
    have hmW : 1 ≤ maxW T := by unfold maxW; split <;> omega
    have hch := isChoice_any _ _ T hT C w5 (h.ext hE5) hI5 hxl
    repeat' (first|refine zb ?_|refine wc_seq_ne 12 rfl ?_|refine ze ?_)
    refine wc_joinB [0, 1, 5, 6, 7, 9, 30, 31, 32] 58 (¬ LayOk T (W, C)) rfl ?_ (fun x2 => ?_)
    · repeat' (first|refine za ?_|refine zd ?_)
      refine r_fa (off := 0) rfl rfl ?_
      repeat' (first|refine za ?_|refine zA ?_|refine zM ?_)
      refine r_max (c := maxW T) rfl rfl rfl ?_
      repeat' (refine za ?_)
      (refine r_call_q (v := ?_) rfl ?_ ?_; rotate_left 1; focus exact within_any _ _ _ _)
      by_cases hw : 1 ≤ W ∧ (T.length = 0 ∨ W ≤ maxW T)
      rotate_left 1
      · have hbad : ¬ LayOk T (W, C) := fun h => hw ⟨h.2.1, h.1⟩
        by_cases hw1 : 1 ≤ W ∧ W ≤ maxW T
        · exact absurd ⟨hw1.1, .inr hw1.2⟩ hw
        rw [decide_eq_false hw1]
        by_cases hn0 : T.length = 0
        · have hw0 : ¬ 1 ≤ W := fun h => hw ⟨h, .inl hn0⟩
          repeat' (first|refine za ?_|refine zA ?_|refine zE ?_|refine zK ?_|refine zO ?_|refine zQ ?_|refine zU ?_)
          refine r_fa (off := 0) rfl rfl ?_
          repeat' (first|refine za ?_|refine zA ?_|refine zb ?_|refine ze ?_|refine zC ?_|refine zM ?_|refine zQ ?_|refine zR ?_|refine zU ?_|refine zV ?_)
          exact ⟨congrArg Value.bool (decide_eq_true hbad).symm, rfl⟩
        · repeat' (first|refine za ?_|refine zA ?_|refine zb ?_|refine ze ?_|refine zE ?_|refine zK ?_|refine zO ?_|refine zQ ?_|refine zU ?_|refine zV ?_)
          exact ⟨congrArg Value.bool (decide_eq_true hbad).symm, rfl⟩
      · have hfin : ∀ b : Bool, b = !decide (ChB T C) → Value.bool b = Value.bool (decide (¬ LayOk T (W, C))) := fun b hb => by
          subst hb
          congr 1
          rw [decide_not]
          congr 1
          exact decide_eq_decide.2 ⟨fun hc => ⟨hw.2, hw.1, hc⟩, fun h => h.2.2⟩
        by_cases hw1 : 1 ≤ W ∧ W ≤ maxW T
        · rw [decide_eq_true hw1]
          repeat' (first|refine za ?_|refine zA ?_|refine zO ?_|refine zR ?_|refine zU ?_|refine zV ?_)
          refine r_fa (off := 0) rfl rfl ?_
          repeat' (first|refine za ?_|refine zA ?_|refine zC ?_|refine zM ?_|refine zR ?_|refine zU ?_)
          refine r_fa (off := 1) rfl rfl ?_
          repeat' (first|refine zM ?_|refine zU ?_)
          (refine r_call_q (v := ?_) rfl ?_ ?_; rotate_left 1; focus exact hch)
          repeat' (first|refine za ?_|refine zb ?_|refine ze ?_|refine zN ?_|refine zR ?_|refine zU ?_)
          exact ⟨hfin _ (by simp), rfl⟩
        · rw [decide_eq_false hw1]
          have hn0 : T.length = 0 := hw.2.resolve_right fun h => hw1 ⟨hw.1, h⟩
          repeat' (first|refine za ?_|refine zA ?_|refine zE ?_|refine zK ?_|refine zO ?_|refine zQ ?_|refine zU ?_)
          refine r_fa (off := 0) rfl rfl ?_
          repeat' (first|refine za ?_|refine zA ?_|refine zC ?_|refine zM ?_|refine zR ?_|refine zU ?_)
          refine r_fa (off := 1) rfl rfl ?_
          repeat' (first|refine zM ?_|refine zU ?_)
          (refine r_call_q (v := ?_) rfl ?_ ?_; rotate_left 1; focus exact hch)
          repeat' (first|refine za ?_|refine zb ?_|refine ze ?_|refine zN ?_|refine zR ?_|refine zU ?_)
          exact ⟨hfin _ (by simp), rfl⟩
    repeat' (first|refine za ?_|refine zB ?_|refine zb ?_|refine zc ?_|refine ze ?_|refine zd ?_|refine zv (fun hcd => ?_) (fun hcd => ?_)|refine zk ?_|refine zn ?_|refine zf ?_|refine zi ?_)
    · refine post1 (v := .int .i64 10) rfl rfl ?_
      exact ⟨by rw [if_neg (hno hcd)], hE5⟩
    have hLO0 : LayOk T (W, C) := Decidable.not_not.1 hcd
    have hLO : (T.length = 0 ∨ W ≤ maxW T) ∧ 1 ≤ W ∧ ChB T C := hLO0
    have hcl := hLO.2.2.1
    refine r_fa (off := 1) rfl rfl ?_
    repeat' (first|refine za ?_|refine zA ?_|refine zb ?_|refine ze ?_|refine zK ?_|refine zM ?_|refine zl ?_)
    refine wc_loop [0, 1, 5, 6, 7, 9, 30, 31, 32, 60, 61] (fun (r : Nat) => [(62, .int .i64 r)]) (fun r wk2 => r ≤ T.length ∧ Ext w wk2 ∧ Blk wk2 wk.heap.size 70 [.int .i64 W, .slice qc C.length mc] ∧ Ints wk2 (.slice qc C.length mc) C ∧
        ∃ F, MapF encP wk2 w2.heap.size F ∧ SumM F T.length (fun r' c => lsum L r' c i + if r' < r ∧ C.getD r' 0 = c then W else 0)) (fun r => T.length - r) 0 rfl ⟨rfl, trivial⟩ ⟨by omega, hE5, hb5, hI5, F, hF5, fun r c hr hc => by rw [hS r c hr hc]; simp⟩ ?_
    rintro r wk2 x3 ⟨hr, hE6, hb6, hI6, F6, hF6, hS6⟩
    repeat' (first|refine za ?_|refine zA ?_|refine zb ?_|refine zc ?_|refine ze ?_|refine zd ?_|refine zC ?_|refine zI ?_|refine zv (fun hcd => ?_) (fun hcd => ?_)|refine zk ?_|refine zl ?_|refine zm ?_|refine zg ?_|refine zj ?_|refine zh ?_)
    rotate_left 1
    · have hrn : r = T.length := by omega
      subst hrn
      refine ⟨i + 1, ⟨rfl, trivial⟩, ⟨by omega, fun j hj => ?_, hE6, F6, hF6, fun r c hr hc => ?_⟩, by omega⟩
      · by_cases e : j = i
        · subst e; rw [hWC]; exact hLO0
        · exact hok j (by omega)
      · rw [hS6 r c hr hc]
        show Value.int .i64 _ = Value.int .i64 (lsum L r c (i + 1))
        rw [hsucc]
        simp [hr]
    have hrT : r < T.length := by omega
    have hrC : r < C.length := by omega
    obtain ⟨a1, a2, a3, a4⟩ := hLO.2.2.2 r hrC
    have hcr := hI6.rd (i := r) hrC
    have hps2 := hI6.isSome (by omega)
    obtain ⟨Z, hZ⟩ : ∃ Z : Nat, C.getD r 0 = Z := ⟨(C.getD r 0).toNat, by omega⟩
    have hZT : Z < T.length := by omega
    rw [hZ] at hcr
    have hW1 := hLO.2.1
    have hW90 : W ≤ 90 := by
      have := hLO.1.resolve_left (by omega)
      have := hlev (by omega)
      have hm : maxW T ≤ 90 := by unfold maxW; split <;> omega
      exact Int.le_trans ‹W ≤ maxW T› hm
    have hsb := lsum_bnd (L := L) (r := r) (c := (Z : Int)) (k := i) fun j hj => by
      have h1 := hok j hj
      have h2 := h1.1.resolve_left (by omega)
      have h3 := hlev (by omega)
      have hm : maxW T ≤ 90 := by unfold maxW; split <;> omega
      have := h1.2.1
      omega
    have hval := hS6 r Z hrT hZT
    dsimp only at hval
    rw [if_neg (by omega), Int.add_zero] at hval
    have hb6l := hb6.lt
    have hFl6 := hF6.lt
    have fin : ∀ w7 (F7 : Int × Int → Option Value), MapF encP w7 w2.heap.size F7 → F7 ((r : Int), (Z : Int)) = some (.int .i64 (lsum L r Z i + W)) → (∀ k, k ≠ ((r : Int), (Z : Int)) → F7 k = F6 k) → Ch (fun k => k = w2.heap.size) wk2 w7 →
        r + 1 ≤ T.length ∧ Ext w w7 ∧ Blk w7 wk.heap.size 70 [.int .i64 W, .slice qc C.length mc] ∧ Ints w7 (.slice qc C.length mc) C ∧ ∃ F, MapF encP w7 w2.heap.size F ∧ SumM F T.length (fun r' c => lsum L r' c i + if r' < r + 1 ∧ C.getD r' 0 = c then W else 0) := by
      intro w7 F7 hF7 hv7 ho7 hC7
      have hE7 : Ext w w7 := Ch.trans' hE6 hC7 fun k hk e => by omega
      refine ⟨by omega, hE7, hb6.keep hC7 (by omega), ?_, F7, hF7, fun r' c hr' hc' => ?_⟩
      · obtain ⟨g0', qc', mc', g1', hI'⟩ := (hl.ext hE7).rd hiL
        rw [hWC] at g0' g1' hI'
        simp only at g0' g1' hI'
        have hold := hl.rd hiL
        obtain ⟨g0o, qo, mo, g1o, hIo⟩ := hold
        rw [hWC] at g0o g1o hIo
        simp only at g0o g1o hIo
        have e1 := rd_ext g1o hE
        rw [g1] at e1
        injection e1 with e1
        rw [e1]
        exact hIo.ext hE7
      · by_cases e : r' = r ∧ c = Z
        · obtain ⟨rfl, rfl⟩ := e
          rw [hv7]
          dsimp only
          rw [if_pos ⟨by omega, hZ⟩]
          rfl
        · rw [ho7 _ (by intro e2; injection e2 with e3 e4; exact e ⟨by omega, by omega⟩), hS6 r' c hr' hc']
          dsimp only
          have : (r' < r ∧ C.getD r' 0 = (c : Int)) ↔ (r' < r + 1 ∧ C.getD r' 0 = (c : Int)) := by
            constructor
            · rintro ⟨h1, h2⟩; exact ⟨by omega, h2⟩
            · rintro ⟨h1, h2⟩
              refine ⟨?_, h2⟩
              have : r' ≠ r := by rintro rfl; exact e ⟨rfl, by omega⟩
              omega
          simp only [this]
    repeat' (first|refine za ?_|refine zB ?_|refine zb ?_|refine ze ?_|refine zL ?_|refine zM ?_)
    have hbd := hb6.ext (Ext.drew wk2)
    have hFd := hF6.ext (Ext.drew wk2)
    (refine wc_heldB (fun w' => Blk w' wk.heap.size 70 [.int .i64 W, .slice qc C.length mc]) (.take 0 (.take 1 (.take 2 (.take 5 (.take 6 (.one 3 (.two 4 (.take 7 (.one 8 (.take 9 (.one 10 .done)))) 8 (.take 9 (.one 4 (.take 7 (.one 10 .done))))))))))) (by kernel_rfl) (by kernel_rfl) (by first | trivial | assumption) ?_)
    refine whB_take rfl rfl (fun w' hw' => rv_move) ?_
    refine whB_take rfl rfl (fun w' hw' => rv_move) ?_
    refine whB_take rfl rfl (fun w' hw' => rv_move) ?_
    refine whB_take rfl rfl (fun w' hw' => rv_fa (off := 0) rfl rfl) ?_
    refine whB_take rfl rfl (fun w' hw' => rv_ld rfl rfl (hw'.rd (k := 0) rfl)) ?_
    refine whB_one rfl rfl ?_
    refine r_build (cells := #[.int .i64 r, .int .i64 Z]) rfl ⟨hbd, ?_⟩
    have hadd : ∀ (ρ : Env) (w' : World) (x y : Operand) (d : Nat) (ty t t2 : TypeId) (pos : String) (aft : Array Edge), ev ρ x = .int .i64 (lsum L r Z i) → ev ρ y = .int .i64 W →
        (execOp (ev ρ) ⟨some d, .binOp .add t x y t2, ty, pos, aft, none⟩).run Tryz.prog w' = .ok (.value (.int .i64 (lsum L r Z i + W))) w' := fun ρ w' x y d ty t t2 pos aft hx hy =>
      rv_of rfl (fun _ h => r_add_in hx hy (by omega) h) fun _ _ h => val_of h
    refine whB_two rfl rfl rfl rfl ?_ ?_
    · refine r_lookup (k := ((r : Int), (Z : Int))) (v := .int .i64 (lsum L r Z i)) mp88 kiP hFd rfl rfl hval ⟨hbd, ?_⟩
      refine whB_take rfl rfl (fun w' hw' => hadd _ _ _ _ _ _ _ _ _ _ rfl rfl) ?_
      refine whB_one rfl rfl ?_
      cases hk : F6 ((r : Int), (Z : Int)) with
      | some v0 =>
        refine r_mapEntry (k := ((r : Int), (Z : Int))) mp88 kiP hFd rfl rfl hk fun n hsn => ⟨hbd, ?_⟩
        refine whB_take rfl rfl (fun w' hw' => rv_ext rfl rfl) ?_
        refine whB_one rfl rfl ?_
        refine r_entryStore (k := ((r : Int), (Z : Int))) (v := .int .i64 (lsum L r Z i + W)) hsn rfl rfl rfl fun w7 hF7 hC7 hs7 => ⟨hbd.keep hC7 (by omega), ?_⟩
        refine whB_done ?_
        repeat' (first|refine za ?_|refine zA ?_|refine zb ?_|refine ze ?_|refine zd ?_|refine zI ?_|refine zh ?_)
        exact ⟨r + 1, ⟨rfl, trivial⟩, fin w7 _ hF7 (by rw [if_pos rfl]) (fun k hk => by rw [if_neg hk]) (Ch.from_drew hC7), by omega⟩
      | none =>
        refine r_mapEntry_new (k := ((r : Int), (Z : Int))) mp88 kiP hFd rfl rfl hk fun n w6 hsn hC6 hs6 => ⟨hbd.keep hC6 (by omega), ?_⟩
        refine whB_take rfl rfl (fun w' hw' => rv_ext rfl rfl) ?_
        refine whB_one rfl rfl ?_
        refine r_entryStore (k := ((r : Int), (Z : Int))) (v := .int .i64 (lsum L r Z i + W)) hsn rfl rfl rfl fun w7 hF7 hC7 hs7 => ⟨(hbd.keep hC6 (by omega)).keep hC7 (by omega), ?_⟩
        refine whB_done ?_
        repeat' (first|refine za ?_|refine zA ?_|refine zb ?_|refine ze ?_|refine zd ?_|refine zI ?_|refine zh ?_)
        exact ⟨r + 1, ⟨rfl, trivial⟩, fin w7 _ hF7 (by rw [if_pos rfl]) (fun k hk => by rw [if_neg hk, if_neg hk]) (Ch.from_drew (hC6.trans hC7)), by omega⟩
    · cases hk : F6 ((r : Int), (Z : Int)) with
      | some v0 =>
        refine r_mapEntry (k := ((r : Int), (Z : Int))) mp88 kiP hFd rfl rfl hk fun n hsn => ⟨hbd, ?_⟩
        refine whB_take rfl rfl (fun w' hw' => rv_ext rfl rfl) ?_
        refine whB_one rfl rfl ?_
        refine r_lookup (k := ((r : Int), (Z : Int))) (v := .int .i64 (lsum L r Z i)) mp88 kiP hFd rfl rfl hval ⟨hbd, ?_⟩
        refine whB_take rfl rfl (fun w' hw' => hadd _ _ _ _ _ _ _ _ _ _ rfl rfl) ?_
        refine whB_one rfl rfl ?_
        refine r_entryStore (k := ((r : Int), (Z : Int))) (v := .int .i64 (lsum L r Z i + W)) hsn rfl rfl rfl fun w7 hF7 hC7 hs7 => ⟨hbd.keep hC7 (by omega), ?_⟩
        refine whB_done ?_
        repeat' (first|refine za ?_|refine zA ?_|refine zb ?_|refine ze ?_|refine zd ?_|refine zI ?_|refine zh ?_)
        exact ⟨r + 1, ⟨rfl, trivial⟩, fin w7 _ hF7 (by rw [if_pos rfl]) (fun k hk => by rw [if_neg hk]) (Ch.from_drew hC7), by omega⟩
      | none =>
        refine r_mapEntry_new (k := ((r : Int), (Z : Int))) mp88 kiP hFd rfl rfl hk fun n w6 hsn hC6 hs6 => ⟨hbd.keep hC6 (by omega), ?_⟩
        refine whB_take rfl rfl (fun w' hw' => rv_ext rfl rfl) ?_
        refine whB_one rfl rfl ?_
        refine r_lookup (k := ((r : Int), (Z : Int))) (v := .int .i64 (lsum L r Z i)) mp88 kiP hsn.map rfl rfl (by rw [hk] at hval; rw [if_pos rfl]; exact hval) ⟨hbd.keep hC6 (by omega), ?_⟩
        refine whB_take rfl rfl (fun w' hw' => hadd _ _ _ _ _ _ _ _ _ _ rfl rfl) ?_
        refine whB_one rfl rfl ?_
        refine r_entryStore (k := ((r : Int), (Z : Int))) (v := .int .i64 (lsum L r Z i + W)) hsn rfl rfl rfl fun w7 hF7 hC7 hs7 => ⟨(hbd.keep hC6 (by omega)).keep hC7 (by omega), ?_⟩
        refine whB_done ?_
        repeat' (first|refine za ?_|refine zA ?_|refine zb ?_|refine ze ?_|refine zd ?_|refine zI ?_|refine zh ?_)
        exact ⟨r + 1, ⟨rfl, trivial⟩, fin w7 _ hF7 (by rw [if_pos rfl]) (fun k hk => by rw [if_neg hk, if_neg hk]) (Ch.from_drew (hC6.trans hC7)), by omega⟩
  -- the sums against the table
  have hin : i = L.length := by omega
  subst hin
  have hk := h.ext hE
  skip
  refine wc_loop [0, 7, 79, 80] (fun (r : Nat) => [(81, .int .i64 r), (6, .bool true)]) (fun r wk2 => wk2 = wk ∧ r ≤ T.length ∧ ∀ r', r' < r → ∀ c, c < T.length → lsum L r' c L.length = ent T r' c) (fun r => T.length - r) 0 rfl ⟨rfl, rfl, trivial⟩ ⟨rfl, by omega, fun r' hr' => by omega⟩ ?_
  rintro r wk2 x2 ⟨hw2, hr, hall⟩
  subst hw2
  repeat' (first|refine za ?_|refine zA ?_|refine zB ?_|refine zb ?_|refine zc ?_|refine ze ?_|refine zd ?_|refine zC ?_|refine zO ?_|refine zY ?_|refine zv (fun hcd => ?_) (fun hcd => ?_)|refine zk ?_|refine zl ?_|refine zm ?_|refine zn ?_|refine zg ?_|refine zj ?_)
  rotate_left 1
  · refine post1 (v := .int .i64 0) rfl rfl ?_
    have hrn : r = T.length := by omega
    subst hrn
    exact ⟨by rw [if_pos ⟨hl100, hok, hall⟩], hE⟩
  have hrT : r < T.length := by omega
  obtain ⟨q3, m3, hrd, hR⟩ := hk.rd hrT
  have hps := h.isSome (by omega)
  have hrl := (tab_row hT hrT).1
  repeat' (first|refine za ?_|refine zA ?_|refine zB ?_|refine zb ?_|refine zc ?_|refine ze ?_|refine zd ?_|refine zK ?_|refine zL ?_|refine zM ?_|refine zl ?_)
  refine wc_loop [0, 7, 12, 13, 79, 80, 81, 86, 87] (fun (c : Nat) => [(88, .int .i64 c), (6, .bool true)]) (fun c wk3 => wk3 = wk2 ∧ c ≤ T.length ∧ ∀ c', c' < c → lsum L r c' L.length = ent T r c') (fun c => T.length - c) 0 rfl ⟨rfl, rfl, trivial⟩ ⟨rfl, by omega, fun r' hr' => by omega⟩ ?_
  rintro c wk3 x3 ⟨hw3, hc, hallc⟩
  subst hw3
  repeat' (first|refine za ?_|refine zA ?_|refine zb ?_|refine zc ?_|refine ze ?_|refine zd ?_|refine zC ?_|refine zI ?_|refine zv (fun hcd => ?_) (fun hcd => ?_)|refine zk ?_|refine zl ?_|refine zm ?_|refine zg ?_|refine zj ?_|refine zh ?_)
  rotate_left 1
  · have hcn : c = T.length := by omega
    subst hcn
    refine ⟨r + 1, ⟨rfl, rfl, trivial⟩, ⟨rfl, by omega, fun r' hr' c hc => ?_⟩, by omega⟩
    by_cases e : r' = r
    · subst e; exact hallc c hc
    · exact hall r' (by omega) c hc
  have hcT : c < T.length := by omega
  have hcell := hR.rd (i := c) (by omega)
  rw [ent_row] at hcell
  have hps3 := hR.isSome (by omega)
  repeat' (first|refine za ?_|refine zA ?_|refine zB ?_|refine zb ?_|refine zc ?_|refine ze ?_|refine zd ?_|refine zL ?_|refine zM ?_)
  refine r_build (cells := #[.int .i64 r, .int .i64 c]) rfl ?_
  repeat' (refine za ?_)
  refine r_lookup (k := ((r : Int), (c : Int))) (v := .int .i64 (lsum L r c L.length)) mp88 kiP hF rfl rfl (hS r c hrT hcT) ?_
  by_cases he : lsum L r c L.length = ent T r c
  · repeat' (first|refine za ?_|refine zA ?_|refine zb ?_|refine ze ?_|refine zd ?_|refine zH ?_|refine zI ?_|refine zY ?_|refine zk ?_|refine zh ?_)
    refine ⟨c + 1, ⟨rfl, rfl, trivial⟩, ⟨rfl, by omega, fun c' hc' => ?_⟩, by omega⟩
    by_cases e : c' = c
    · subst e; exact he
    · exact hallc c' (by omega)
  · repeat' (first|refine za ?_|refine zA ?_|refine zB ?_|refine zb ?_|refine zc ?_|refine ze ?_|refine zd ?_|refine zH ?_|refine zO ?_|refine zX ?_|refine zm ?_|refine zn ?_|refine zf ?_|refine zg ?_|refine zj ?_|refine zZ ?_)
    refine post1 (v := .int .i64 10) rfl rfl ?_
    exact ⟨by rw [if_neg fun hs => he (hs.2.2 r hrT c hcT)], hE⟩
end Pp
end Go.Proofs.YtocgehoffdjijaaGreat
