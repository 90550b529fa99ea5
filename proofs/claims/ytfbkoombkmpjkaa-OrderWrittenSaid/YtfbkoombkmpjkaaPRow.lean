/- Plain law: the rows that arise step by step, as functions of a place. No program in sight. -/
import Derived.Test.YtfbkoombkmpjkaaRows
namespace Go.Proofs.Ytfbkoombkmpjkaa
/-- A number of a row, or 0. -/
def atL (L : List Int) (k : Int) : Int := if 0 ≤ k ∧ k < L.length then L.getD k.toNat 0 else 0
/-- The sum of the numbers at k, k - 1, .. k - j + 1. -/
def winS (L : List Int) (k : Int) : Nat → Int
  | 0 => 0
  | j + 1 => winS L k j + atL L (k - j)
/-- The rows that arise step by step. -/
def nextRow (S : List Int → Nat → Nat → Int) (row : List Int) (m : Nat) : List Int := (List.range (m * m + 1)).map fun j => S row m j
def rowS (S : List Int → Nat → Nat → Int) : Nat → List Int
  | 0 => [1]
  | m + 1 => nextRow S (rowS S m) (m + 1)
theorem rowS_len {S : List Int → Nat → Nat → Int} : ∀ {m : Nat}, (rowS S m).length = m * m + 1
  | 0 => rfl
  | m + 1 => by simp [rowS, nextRow]
namespace RW
def SI (row : List Int) (m k : Nat) : Int := winS row k m
def SD (row : List Int) (m k : Nat) : Int := if m = 1 then atL row k else ((k : Int) + 1) * atL row k + ((m : Int) - k) * atL row ((k : Int) - 1)
def SC (row : List Int) (m k : Nat) : Int := ((m : Int) - 1) * atL row k + atL row ((k : Int) - 1)
def wsum (f : Int → Int) (k : Int) : Nat → Int
  | 0 => 0
  | j + 1 => wsum f k j + f (k - j)
def fI : Nat → Int → Int
  | 0, k => if k = 0 then 1 else 0
  | m + 1, k => wsum (fI m) k (m + 1)
def fD : Nat → Int → Int
  | 0, k => if k = 0 then 1 else 0
  | m + 1, k => if m = 0 then fD m k else (k + 1) * fD m k + ((m : Int) + 1 - k) * fD m (k - 1)
def fC : Nat → Int → Int
  | 0, k => if k = 0 then 1 else 0
  | m + 1, k => m * fC m k + fC m (k - 1)
def fac : Nat → Nat
  | 0 => 1
  | n + 1 => (n + 1) * fac n
theorem fac_pos : ∀ n, 0 < fac n
  | 0 => by decide
  | n + 1 => Nat.mul_pos (by omega) (fac_pos n)
theorem fac_mono : ∀ {a b : Nat}, a ≤ b → fac a ≤ fac b := by
  intro a b h
  induction h with
  | refl => exact Nat.le_refl _
  | step _ ih => exact Nat.le_trans ih (Nat.le_mul_of_pos_left _ (by omega))
theorem wsum_zero {f : Int → Int} {k : Int} : ∀ {j : Nat}, (∀ i : Nat, i < j → f (k - i) = 0) → wsum f k j = 0
  | 0, _ => rfl
  | j + 1, h => by
    simp only [wsum]
    rw [wsum_zero fun i hi => h i (by omega), h j (by omega)]
    rfl
theorem wsum_nn {f : Int → Int} {k b : Int} (h : ∀ x, 0 ≤ f x ∧ f x ≤ b) : ∀ {j : Nat}, 0 ≤ wsum f k j ∧ wsum f k j ≤ j * b
  | 0 => by simp [wsum]
  | j + 1 => by
    have h1 := wsum_nn (k := k) h (j := j)
    have h2 := h (k - j)
    simp only [wsum]
    push_cast
    rw [Int.add_mul, Int.one_mul]
    omega
theorem fI_zero : ∀ {m : Nat} {k : Int}, (k < 0 ∨ (m : Int) * (m - 1) < 2 * k) → fI m k = 0
  | 0, k, h => by
    simp only [fI]
    rw [if_neg (by omega)]
  | m + 1, k, h => by
    refine wsum_zero fun i hi => fI_zero ?_
    rcases h with h | h
    · left; omega
    · right
      push_cast at h
      have e1 : ((m : Int) + 1) * (m + 1 - 1) = m * (m - 1) + 2 * m := by grind
      rw [e1] at h
      omega
theorem fD_zero : ∀ {m : Nat} {k : Int}, (k < 0 ∨ ((m : Int) ≤ k ∧ 1 ≤ k)) → fD m k = 0
  | 0, k, h => by
    simp only [fD]
    rw [if_neg (by omega)]
  | m + 1, k, h => by
    simp only [fD]
    by_cases hm : m = 0
    · rw [if_pos hm]
      exact fD_zero (by omega)
    · rw [if_neg hm, fD_zero (m := m) (k := k) (by omega), fD_zero (m := m) (k := k - 1) (by omega)]
      simp
theorem fC_zero : ∀ {m : Nat} {k : Int}, (k < 0 ∨ (m : Int) < k) → fC m k = 0
  | 0, k, h => by
    simp only [fC]
    rw [if_neg (by omega)]
  | m + 1, k, h => by
    simp only [fC]
    rw [fC_zero (m := m) (k := k) (by omega), fC_zero (m := m) (k := k - 1) (by omega)]
    simp
theorem fI_nn : ∀ {m : Nat} {k : Int}, 0 ≤ fI m k ∧ fI m k ≤ fac m
  | 0, k => by simp only [fI, fac]; split <;> decide
  | m + 1, k => by
    have := wsum_nn (f := fI m) (k := k) (b := fac m) (fun x => fI_nn) (j := m + 1)
    simp only [fI, fac]
    push_cast at *
    exact this
theorem fD_nn : ∀ {m : Nat} {k : Int}, 0 ≤ fD m k ∧ fD m k ≤ fac (m + 1)
  | 0, k => by simp only [fD, fac]; split <;> decide
  | m + 1, k => by
    have h1 := fD_nn (m := m) (k := k)
    have h2 := fD_nn (m := m) (k := k - 1)
    have hf : (fac (m + 1 + 1) : Int) = ((m : Int) + 2) * fac (m + 1) := by show (((m + 1 + 1) * fac (m + 1) : Nat) : Int) = _; push_cast; grind
    have hp : (0 : Int) < fac (m + 1) := by have := fac_pos (m + 1); omega
    by_cases hz : k < 0 ∨ ((m + 1 : Nat) : Int) ≤ k ∧ 1 ≤ k
    · rw [fD_zero hz, hf]
      exact ⟨Int.le_refl _, Int.mul_nonneg (by omega) (by omega)⟩
    · have e0 : 0 ≤ k ∧ k ≤ m := by omega
      simp only [fD]
      rw [hf]
      by_cases hm : m = 0
      · rw [if_pos hm]
        subst hm
        exact ⟨h1.1, by omega⟩
      · rw [if_neg hm]
        have a1 : 0 ≤ (k + 1) * fD m k := Int.mul_nonneg (by omega) h1.1
        have a2 : 0 ≤ ((m : Int) + 1 - k) * fD m (k - 1) := Int.mul_nonneg (by omega) h2.1
        have b1 : (k + 1) * fD m k ≤ (k + 1) * fac (m + 1) := Int.mul_le_mul_of_nonneg_left h1.2 (by omega)
        have b2 : ((m : Int) + 1 - k) * fD m (k - 1) ≤ ((m : Int) + 1 - k) * fac (m + 1) := Int.mul_le_mul_of_nonneg_left h2.2 (by omega)
        refine ⟨by omega, ?_⟩
        have : ((m : Int) + 2) * fac (m + 1) = (k + 1) * fac (m + 1) + ((m : Int) + 1 - k) * fac (m + 1) := by grind
        omega
theorem fC_nn : ∀ {m : Nat} {k : Int}, 0 ≤ fC m k ∧ fC m k ≤ fac m
  | 0, k => by simp only [fC, fac]; split <;> decide
  | m + 1, k => by
    have h1 := fC_nn (m := m) (k := k)
    have h2 := fC_nn (m := m) (k := k - 1)
    simp only [fC, fac]
    have a1 : 0 ≤ (m : Int) * fC m k := Int.mul_nonneg (by omega) h1.1
    have b1 : (m : Int) * fC m k ≤ m * fac m := Int.mul_le_mul_of_nonneg_left h1.2 (by omega)
    have : (((m + 1) * fac m : Nat) : Int) = m * fac m + fac m := by push_cast; grind
    omega
theorem atL_range {n : Nat} {g : Nat → Int} {k : Int} : atL ((List.range n).map g) k = if 0 ≤ k ∧ k < n then g k.toNat else 0 := by
  unfold atL
  simp only [List.length_map, List.length_range]
  by_cases h : 0 ≤ k ∧ k < n
  · rw [if_pos h, if_pos h]
    have : k.toNat < n := by omega
    simp [List.getD, this]
  · rw [if_neg h, if_neg h]
theorem atL_one {k : Int} : atL [1] k = if k = 0 then 1 else 0 := by
  unfold atL
  by_cases h : k = 0
  · subst h; rfl
  · rw [if_neg h, if_neg (by simp; omega)]
theorem winS_wsum {L : List Int} {f : Int → Int} (h : ∀ k, atL L k = f k) {k : Int} : ∀ {j : Nat}, winS L k j = wsum f k j
  | 0 => rfl
  | j + 1 => by simp only [winS, wsum]; rw [winS_wsum h, h]
theorem sq_two {m : Nat} {k : Int} (h : ((m + 1) * (m + 1) + 1 : Nat) ≤ k) : ((m + 1 : Nat) : Int) * ((m + 1 : Nat) - 1) < 2 * k := by
  have e : ((m + 1 : Nat) : Int) * ((m + 1 : Nat) - 1) = m * m + m := by push_cast; grind
  have e2 : (((m + 1) * (m + 1) + 1 : Nat) : Int) = m * m + 2 * m + 2 := by push_cast; grind
  have e3 : (0 : Int) ≤ m * m := Int.mul_nonneg (by omega) (by omega)
  omega
theorem rowI : ∀ {m : Nat} {k : Int}, atL (rowS SI m) k = fI m k
  | 0, k => by simp only [rowS, fI, atL_one]
  | m + 1, k => by
    simp only [rowS, nextRow]
    rw [atL_range]
    by_cases h : 0 ≤ k ∧ k < ((m + 1) * (m + 1) + 1 : Nat)
    · rw [if_pos h]
      show winS (rowS SI m) (k.toNat : Nat) (m + 1) = _
      rw [winS_wsum (f := fI m) fun k => rowI, show ((k.toNat : Nat) : Int) = k by omega]
      rfl
    · rw [if_neg h, fI_zero]
      by_cases h0 : k < 0
      · exact .inl h0
      · exact .inr (sq_two (by omega))
theorem m_sq {m : Nat} : m + 1 ≤ (m + 1) * (m + 1) := Nat.le_mul_of_pos_left _ (by omega)
theorem rowD : ∀ {m : Nat} {k : Int}, atL (rowS SD m) k = fD m k
  | 0, k => by simp only [rowS, fD, atL_one]
  | m + 1, k => by
    simp only [rowS, nextRow]
    rw [atL_range]
    by_cases h : 0 ≤ k ∧ k < ((m + 1) * (m + 1) + 1 : Nat)
    · rw [if_pos h]
      show (if m + 1 = 1 then atL (rowS SD m) (k.toNat : Nat) else (((k.toNat : Nat) : Int) + 1) * atL (rowS SD m) (k.toNat : Nat) + (((m + 1 : Nat) : Int) - (k.toNat : Nat)) * atL (rowS SD m) (((k.toNat : Nat) : Int) - 1)) = _
      rw [show ((k.toNat : Nat) : Int) = k by omega, rowD, rowD]
      simp only [fD]
      by_cases hm : m = 0
      · rw [if_pos (by omega), if_pos hm]
      · rw [if_neg (by omega), if_neg hm]
        push_cast
        rfl
    · have := m_sq (m := m)
      rw [if_neg h, fD_zero (by omega)]
theorem rowC : ∀ {m : Nat} {k : Int}, atL (rowS SC m) k = fC m k
  | 0, k => by simp only [rowS, fC, atL_one]
  | m + 1, k => by
    simp only [rowS, nextRow]
    rw [atL_range]
    by_cases h : 0 ≤ k ∧ k < ((m + 1) * (m + 1) + 1 : Nat)
    · rw [if_pos h]
      show (((m + 1 : Nat) : Int) - 1) * atL (rowS SC m) (k.toNat : Nat) + atL (rowS SC m) (((k.toNat : Nat) : Int) - 1) = _
      rw [show ((k.toNat : Nat) : Int) = k by omega, rowC, rowC]
      simp only [fC]
      push_cast
      rw [show (m : Int) + 1 - 1 = m by omega]
    · have := m_sq (m := m)
      rw [if_neg h, fC_zero (by omega)]
/-- The sum of the first numbers. -/
def sumT (f : Int → Int) : Nat → Int
  | 0 => 0
  | n + 1 => sumT f n + f n
theorem sumT_congr {f g : Int → Int} : ∀ {n : Nat}, (∀ i : Nat, i < n → f i = g i) → sumT f n = sumT g n
  | 0, _ => rfl
  | n + 1, h => by simp only [sumT]; rw [sumT_congr fun i hi => h i (by omega), h n (by omega)]
theorem sumT_add {f g : Int → Int} : ∀ {n : Nat}, sumT (fun k => f k + g k) n = sumT f n + sumT g n
  | 0 => rfl
  | n + 1 => by simp only [sumT]; rw [sumT_add]; omega
theorem sumT_mul {f : Int → Int} {c : Int} : ∀ {n : Nat}, sumT (fun k => c * f k) n = c * sumT f n
  | 0 => by simp [sumT]
  | n + 1 => by simp only [sumT]; rw [sumT_mul]; grind
theorem sumT_tail {f : Int → Int} {n : Nat} : ∀ {d : Nat}, (∀ i : Nat, n ≤ i → f i = 0) → sumT f (n + d) = sumT f n
  | 0, _ => rfl
  | d + 1, h => by
    show sumT f (n + d) + f ((n + d : Nat) : Int) = _
    rw [sumT_tail h, h (n + d) (by omega)]; omega
theorem sumT_shift1 {f : Int → Int} (h : f (-1) = 0) : ∀ {n : Nat}, sumT (fun k => f (k - 1)) (n + 1) = sumT f n
  | 0 => by simp [sumT, h]
  | n + 1 => by
    show sumT (fun k => f (k - 1)) (n + 1) + f (((n + 1 : Nat) : Int) - 1) = _
    rw [sumT_shift1 h, show ((n + 1 : Nat) : Int) - 1 = n by omega]; rfl
theorem sumT_shift {f : Int → Int} (h : ∀ k, k < 0 → f k = 0) {n : Nat} : ∀ {j : Nat}, sumT (fun k => f (k - j)) (n + j) = sumT f n
  | 0 => sumT_congr fun i _ => by simp
  | j + 1 => by
    have := sumT_shift1 (f := fun k => f (k - j)) (h _ (by omega)) (n := n + j)
    rw [show n + (j + 1) = n + j + 1 by omega, sumT_congr (g := fun k => f (k - 1 - j)) fun i _ => by congr 1; omega, this, sumT_shift h]
theorem sumT_wsum {f : Int → Int} (h : ∀ k, k < 0 → f k = 0) {n : Nat} (hn : ∀ i : Nat, n ≤ i → f i = 0) : ∀ {j : Nat}, sumT (fun k => wsum f k j) (n + j) = j * sumT f n
  | 0 => by
    rw [sumT_congr (g := fun _ => 0 * 0) fun i _ => by simp [wsum], sumT_mul (f := fun _ => 0)]; simp
  | j + 1 => by
    have e1 : sumT (fun k => wsum f k j) (n + j + 1) = sumT (fun k => wsum f k j) (n + j) :=
      sumT_tail (d := 1) fun i hi => wsum_zero fun a ha => by
        have := hn (i - a) (by omega)
        rw [← this]; congr 1; omega
    have e2 : sumT (fun k => f (k - j)) (n + j + 1) = sumT (fun k => f (k - j)) (n + j) := by
      refine sumT_tail (d := 1) fun i hi => ?_
      have := hn (i - j) (by omega)
      rw [← this]; congr 1; omega
    show sumT (fun k => wsum f k j + f (k - j)) (n + j + 1) = _
    rw [sumT_add, e1, e2, sumT_wsum h hn, sumT_shift h]
    push_cast; grind
/-- The greatest number of inversions. -/
def mst : Nat → Nat
  | 0 => 0
  | n + 1 => mst n + n
theorem mst_eq : ∀ {n : Nat}, (2 * mst n : Int) = n * (n - 1)
  | 0 => rfl
  | n + 1 => by
    have := mst_eq (n := n)
    simp only [mst]
    push_cast at *
    grind
theorem fI_sum : ∀ {m : Nat}, sumT (fI m) (mst m + 1) = fac m
  | 0 => by decide
  | m + 1 => by
    have := sumT_wsum (f := fI m) (fun k hk => fI_zero (.inl hk)) (n := mst m + 1) (fun i hi => fI_zero (.inr (by have := mst_eq (n := m); omega))) (j := m + 1)
    rw [fI_sum] at this
    have e : sumT (fI (m + 1)) (mst (m + 1) + 1 + 1) = sumT (fI (m + 1)) (mst (m + 1) + 1) := sumT_tail (d := 1) fun i hi => fI_zero (.inr (by have := mst_eq (n := m + 1); omega))
    rw [← e, show mst (m + 1) + 1 + 1 = mst m + 1 + (m + 1) by simp only [mst]; omega]
    refine Eq.trans this ?_
    simp only [fac]; push_cast; rfl
theorem fI_tot {m n : Nat} (h : mst m < n) : sumT (fI m) n = fac m := by
  have : sumT (fI m) (mst m + 1 + (n - (mst m + 1))) = sumT (fI m) (mst m + 1) := sumT_tail fun i hi => fI_zero (.inr (by have := mst_eq (n := m); omega))
  rw [show mst m + 1 + (n - (mst m + 1)) = n by omega] at this
  rw [this, fI_sum]
theorem fC_sum : ∀ {m : Nat}, sumT (fC m) (m + 1) = fac m
  | 0 => by decide
  | m + 1 => by
    have h1 : sumT (fun k => fC m (k - 1)) (m + 1 + 1) = sumT (fC m) (m + 1) := sumT_shift1 (fC_zero (.inl (by omega)))
    have h2 : sumT (fun k => fC m k) (m + 1 + 1) = sumT (fC m) (m + 1) := sumT_tail (d := 1) fun i hi => fC_zero (.inr (by omega))
    show sumT (fun k => (m : Int) * fC m k + fC m (k - 1)) (m + 1 + 1) = _
    rw [sumT_add, sumT_mul (f := fun k => fC m k), h1, h2, fC_sum]
    simp only [fac]; push_cast; grind
theorem fC_tot {m n : Nat} (h : m < n) : sumT (fC m) n = fac m := by
  have : sumT (fC m) (m + 1 + (n - (m + 1))) = sumT (fC m) (m + 1) := sumT_tail fun i hi => fC_zero (.inr (by omega))
  rw [show m + 1 + (n - (m + 1)) = n by omega] at this
  rw [this, fC_sum]
theorem fD_sum : ∀ {m : Nat}, sumT (fD (m + 1)) (m + 1) = fac (m + 1)
  | 0 => by decide
  | m + 1 => by
    have h1 : sumT (fun k => ((m : Int) + 1 - k) * fD (m + 1) k) (m + 1) + sumT (fun k => (k + 1) * fD (m + 1) k) (m + 1) = (m + 2) * sumT (fD (m + 1)) (m + 1) := by
      rw [← sumT_add, ← sumT_mul]
      exact sumT_congr fun i _ => by grind
    have h2 : sumT (fun k => ((m : Int) + 1 + 1 - k) * fD (m + 1) (k - 1)) (m + 1 + 1) = sumT (fun k => ((m : Int) + 1 - k) * fD (m + 1) k) (m + 1) := by
      rw [← sumT_shift1 (f := fun k => ((m : Int) + 1 - k) * fD (m + 1) k) (by rw [fD_zero (.inl (by omega))]; simp)]
      exact sumT_congr fun i _ => by congr 1; omega
    have h3 : sumT (fun k => (k + 1) * fD (m + 1) k) (m + 1 + 1) = sumT (fun k => (k + 1) * fD (m + 1) k) (m + 1) := sumT_tail (d := 1) fun i hi => by rw [fD_zero (.inr (by omega))]; simp
    have h4 : sumT (fD (m + 1 + 1)) (m + 1 + 1) = sumT (fun k => (k + 1) * fD (m + 1) k + ((m : Int) + 1 + 1 - k) * fD (m + 1) (k - 1)) (m + 1 + 1) := sumT_congr fun i _ => by
      show (if m + 1 = 0 then fD (m + 1) i else ((i : Int) + 1) * fD (m + 1) i + (((m + 1 : Nat) : Int) + 1 - i) * fD (m + 1) (i - 1)) = _
      rw [if_neg (by omega)]; push_cast; rfl
    rw [h4, sumT_add, h2, h3, Int.add_comm, h1, fD_sum]
    show _ = (((m + 1 + 1) * fac (m + 1) : Nat) : Int)
    push_cast; grind
theorem fD_tot {m n : Nat} (h : m < n) (h0 : 0 < m) : sumT (fD m) n = fac m := by
  obtain ⟨p, rfl⟩ : ∃ p, m = p + 1 := ⟨m - 1, by omega⟩
  have : sumT (fD (p + 1)) (p + 1 + (n - (p + 1))) = sumT (fD (p + 1)) (p + 1) := sumT_tail fun i hi => fD_zero (.inr (by omega))
  rw [show p + 1 + (n - (p + 1)) = n by omega] at this
  rw [this, fD_sum]
theorem fD_tot' {m n : Nat} (h : m ≤ n) (h0 : 0 < m) : sumT (fD m) n = fac m := by
  obtain ⟨p, rfl⟩ : ∃ p, m = p + 1 := ⟨m - 1, by omega⟩
  have : sumT (fD (p + 1)) (p + 1 + (n - (p + 1))) = sumT (fD (p + 1)) (p + 1) := sumT_tail fun i hi => fD_zero (.inr (by omega))
  rw [show p + 1 + (n - (p + 1)) = n by omega] at this
  rw [this, fD_sum]
theorem sumT_mono {f : Int → Int} (h : ∀ k, 0 ≤ f k) {n : Nat} : ∀ {d : Nat}, sumT f n ≤ sumT f (n + d)
  | 0 => Int.le_refl _
  | d + 1 => by
    have := sumT_mono h (n := n) (d := d)
    have := h ((n + d : Nat) : Int)
    show _ ≤ sumT f (n + d) + f ((n + d : Nat) : Int)
    omega
theorem sumT_nn {f : Int → Int} (h : ∀ k, 0 ≤ f k) : ∀ {n : Nat}, 0 ≤ sumT f n
  | 0 => Int.le_refl _
  | n + 1 => by
    have := sumT_nn h (n := n)
    have := h (n : Int)
    show 0 ≤ sumT f n + f n
    omega
theorem fI_le {m n : Nat} : 0 ≤ sumT (fI m) n ∧ sumT (fI m) n ≤ fac m := by
  refine ⟨sumT_nn fun k => fI_nn.1, ?_⟩
  rw [← fI_tot (m := m) (n := n + (mst m + 1)) (by omega)]
  exact sumT_mono fun k => fI_nn.1
theorem fD_le {m n : Nat} (h : 0 < m) : 0 ≤ sumT (fD m) n ∧ sumT (fD m) n ≤ fac m := by
  refine ⟨sumT_nn fun k => fD_nn.1, ?_⟩
  rw [← fD_tot' (m := m) (n := n + m) (by omega) h]
  exact sumT_mono fun k => fD_nn.1
theorem fC_le {m n : Nat} : 0 ≤ sumT (fC m) n ∧ sumT (fC m) n ≤ fac m := by
  refine ⟨sumT_nn fun k => fC_nn.1, ?_⟩
  rw [← fC_tot (m := m) (n := n + (m + 1)) (by omega)]
  exact sumT_mono fun k => fC_nn.1
theorem mst_quo {n : Nat} : ((n : Int) * (n - 1)) / 2 = mst n := by
  have := mst_eq (n := n)
  omega
theorem mst_le {a b : Nat} (h : a ≤ b) : mst a ≤ mst b := by
  induction h with
  | refl => exact Nat.le_refl _
  | step _ ih => simp only [mst]; omega
theorem mst_big : ∀ {n : Nat}, 3 ≤ n → n ≤ mst n
  | 3, _ => by decide
  | n + 4, _ => by
    have := mst_big (n := n + 3) (by omega)
    simp only [mst] at *
    omega
theorem wsum_front {f : Int → Int} {k : Int} : ∀ {j : Nat}, wsum f k (j + 1) = f k + wsum f (k - 1) j
  | 0 => by simp [wsum]
  | j + 1 => by
    show wsum f k (j + 1) + f (k - ((j + 1 : Nat) : Int)) = f k + (wsum f (k - 1) j + f (k - 1 - j))
    rw [wsum_front, show k - ((j + 1 : Nat) : Int) = k - 1 - j by omega]; omega
theorem wsum_rev {f g : Int → Int} {a b : Int} : ∀ {j : Nat}, (∀ i : Nat, i < j → f (a - i) = g (b - (j - 1 - i : Int))) → wsum f a j = wsum g b j
  | 0, _ => rfl
  | j + 1, h => by
    rw [wsum_front (f := g)]
    show wsum f a j + f (a - j) = _
    have h1 := h j (by omega)
    rw [h1, wsum_rev (f := f) (g := g) (a := a) (b := b - 1) fun i hi => by rw [h i (by omega)]; congr 1; push_cast; omega]
    rw [show b - (((j + 1 : Nat) : Int) - 1 - (j : Int)) = b by omega]; omega
theorem fI_sym : ∀ {m : Nat} {k : Int}, fI m (mst m - k) = fI m k
  | 0, k => by simp only [fI, mst]; simp
  | m + 1, k => by
    refine wsum_rev fun i hi => ?_
    rw [← fI_sym (m := m)]
    congr 1
    simp only [mst]; push_cast; omega
theorem fD_sym : ∀ {m : Nat} {k : Int}, fD (m + 1) (m - k) = fD (m + 1) k
  | 0, k => by simp only [fD]; simp
  | m + 1, k => by
    show (if m + 1 = 0 then _ else (((m + 1 : Nat) : Int) - k + 1) * fD (m + 1) (((m + 1 : Nat) : Int) - k) + (((m + 1 : Nat) : Int) + 1 - (((m + 1 : Nat) : Int) - k)) * fD (m + 1) (((m + 1 : Nat) : Int) - k - 1)) = (if m + 1 = 0 then _ else (k + 1) * fD (m + 1) k + (((m + 1 : Nat) : Int) + 1 - k) * fD (m + 1) (k - 1))
    rw [if_neg (by omega), if_neg (by omega)]
    have h1 := fD_sym (m := m) (k := k)
    have h2 := fD_sym (m := m) (k := k - 1)
    rw [show ((m + 1 : Nat) : Int) - k - 1 = m - k by omega, h1, show ((m + 1 : Nat) : Int) - k = m - (k - 1) by omega, h2]
    push_cast
    grind
end RW
end Go.Proofs.Ytfbkoombkmpjkaa
