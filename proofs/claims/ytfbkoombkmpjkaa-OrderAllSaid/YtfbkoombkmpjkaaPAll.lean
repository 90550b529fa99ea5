/- Plain law: all orders of up to 5 numbers, counted by their numbers. No program in sight. -/
import Derived.Test.YtfbkoombkmpjkaaPMk
namespace Go.Proofs.Ytfbkoombkmpjkaa
open CY PO RW MD
namespace AL
def bump (l : List Int) (t : Nat) : List Int := l.set t (l.getD t 0 + 1)
/-- The number i of the order with number k. -/
def nmb (i n k : Nat) : Int := (nums (itm n k)).getD i 0
/-- How often each number i has come up among the first k orders. -/
def cnA (i n : Nat) : Nat → List Int
  | 0 => List.replicate 20 0
  | k + 1 => bump (cnA i n k) (nmb i n k).toNat
theorem cnA_len {i n : Nat} : ∀ {k : Nat}, (cnA i n k).length = 20
  | 0 => by simp [cnA]
  | k + 1 => by simp [cnA, bump, cnA_len]
theorem cnA_bnd {i n : Nat} : ∀ {k t : Nat}, 0 ≤ (cnA i n k).getD t 0 ∧ (cnA i n k).getD t 0 ≤ k
  | 0, t => by simp only [cnA]; rw [rep0]; omega
  | k + 1, t => by
    have h1 := cnA_bnd (i := i) (n := n) (k := k) (t := t)
    simp only [cnA, bump]
    by_cases hl : (nmb i n k).toNat < (cnA i n k).length
    · have h2 := cnA_bnd (i := i) (n := n) (k := k) (t := (nmb i n k).toNat)
      rw [getD_set hl]
      split <;> omega
    · rw [List.set_eq_of_length_le (by omega)]; omega
def bndA (i : Nat) : Int := if i < 2 then 10 else 5
theorem nmb_bnd : ∀ n, n < 6 → ∀ k, k < fac n → ∀ i, i < 6 → 0 ≤ nmb i n k ∧ nmb i n k ≤ bndA i := by decide +kernel
def want (i n k : Nat) : Int := if i < 2 then fI n k else if i < 4 then fD n k else fC n k
theorem fin0 : ∀ n, n < 6 → cnA 0 n (fac n) = (List.range 20).map (want 0 n) := by decide +kernel
theorem fin1 : ∀ n, n < 6 → cnA 1 n (fac n) = (List.range 20).map (want 1 n) := by decide +kernel
theorem fin2 : ∀ n, n < 6 → cnA 2 n (fac n) = (List.range 20).map (want 2 n) := by decide +kernel
theorem fin3 : ∀ n, n < 6 → cnA 3 n (fac n) = (List.range 20).map (want 3 n) := by decide +kernel
theorem fin4 : ∀ n, n < 6 → cnA 4 n (fac n) = (List.range 20).map (want 4 n) := by decide +kernel
theorem fin5 : ∀ n, n < 6 → cnA 5 n (fac n) = (List.range 20).map (want 5 n) := by decide +kernel
theorem range_at {f : Nat → Int} {k : Nat} (h : k < 20) : ((List.range 20).map f).getD k 0 = f k := by simp [List.getD, h]
end AL
end Go.Proofs.Ytfbkoombkmpjkaa
