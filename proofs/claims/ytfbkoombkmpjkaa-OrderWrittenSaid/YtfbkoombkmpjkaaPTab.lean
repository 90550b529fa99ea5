/- Plain: the table of an order; its number. No program in sight. -/
import Derived.Test.YtfbkoombkmpjkaaPPerm
import Derived.Test.YtfbkoombkmpjkaaPRow
namespace Go.Proofs.Ytfbkoombkmpjkaa
open CY PO RW
/-- The table: how many smaller numbers stand after each one; of the first k numbers. -/
def tbK (L : List Int) : Nat → List Int
  | 0 => []
  | k + 1 => tbK L k ++ [cntB L k L.length]
def tbl (L : List Int) : List Int := tbK L L.length
theorem tbK_len {L : List Int} : ∀ {k : Nat}, (tbK L k).length = k
  | 0 => rfl
  | k + 1 => by simp [tbK, tbK_len]
theorem tbl_len {L : List Int} : (tbl L).length = L.length := tbK_len
theorem snoc_at {A : List Int} {x : Int} {i : Nat} : (A ++ [x]).getD i 0 = if i < A.length then A.getD i 0 else if i = A.length then x else 0 := by
  simp only [List.getD]
  by_cases h : i < A.length
  · rw [if_pos h, List.getElem?_append_left h]
  · rw [if_neg h, List.getElem?_append_right (by omega)]
    by_cases e : i = A.length
    · subst e; simp
    · rw [if_neg e, List.getElem?_eq_none (by simp; omega)]; rfl
theorem tbK_at {L : List Int} : ∀ {k i : Nat}, i < k → (tbK L k).getD i 0 = cntB L i L.length
  | k + 1, i, h => by
    simp only [tbK]
    rw [snoc_at, tbK_len]
    by_cases e : i < k
    · rw [if_pos e, tbK_at e]
    · have : i = k := by omega
      subst this
      simp
theorem tbl_at {L : List Int} {i : Nat} (h : i < L.length) : (tbl L).getD i 0 = cntB L i L.length := tbK_at h
theorem take_tbl {L R : List Int} (hl : L.length ≤ R.length) (h : ∀ i, i < L.length → R.getD i 0 = cntB L i L.length) : R.take L.length = tbl L := by
  refine list_ext (by rw [tbl_len]; simp; omega) fun i hi => ?_
  have hi' : i < L.length := by simp at hi; omega
  rw [tbl_at hi', ← h i hi']
  simp [List.getD, hi']
/-- The number of orders before an order. -/
def idxK (L : List Int) : Nat → Int
  | 0 => 0
  | k + 1 => idxK L k + cntB L k L.length * fac (L.length - 1 - k)
theorem cnt_lt {L : List Int} {i : Nat} : ∀ {n : Nat}, i < n → cntB L i n ≤ n - 1 - i
  | n + 1, h => by
    simp only [cntB]
    by_cases e : i = n
    · subst e
      rw [cntB_zero (Nat.le_refl _), if_neg (by omega)]; omega
    · have := cnt_lt (L := L) (i := i) (n := n) (by omega)
      split <;> omega
theorem idxK_bnd {L : List Int} : ∀ {k : Nat}, k ≤ L.length → 0 ≤ idxK L k ∧ idxK L k + fac (L.length - k) ≤ fac L.length
  | 0, _ => by simp [idxK]
  | k + 1, h => by
    have ih := idxK_bnd (L := L) (k := k) (by omega)
    have h0 := (cntB_bnd (L := L) (i := k) (n := L.length)).1
    have h1 := cnt_lt (L := L) (i := k) (n := L.length) (by omega)
    simp only [idxK]
    have hf : L.length - k = (L.length - 1 - k) + 1 := by omega
    have e2 : L.length - (k + 1) = L.length - 1 - k := by omega
    rw [e2]
    rw [hf] at ih
    have hfe : (fac (L.length - 1 - k + 1) : Int) = ((L.length - 1 - k : Nat) + 1 : Int) * fac (L.length - 1 - k) := by
      show (((L.length - 1 - k + 1) * fac (L.length - 1 - k) : Nat) : Int) = _
      push_cast; rfl
    rw [hfe] at ih
    have hp : (0 : Int) ≤ fac (L.length - 1 - k) := by omega
    have a1 : 0 ≤ cntB L k L.length * fac (L.length - 1 - k) := Int.mul_nonneg h0 hp
    have a2 : cntB L k L.length * fac (L.length - 1 - k) ≤ ((L.length - 1 - k : Nat) : Int) * fac (L.length - 1 - k) := Int.mul_le_mul_of_nonneg_right (by omega) hp
    rw [Int.add_mul, Int.one_mul] at ih
    omega
theorem invs_tbl {L : List Int} : ∀ {k : Nat}, k ≤ L.length → sumI ((tbl L).take k) = invs L k
  | 0, _ => rfl
  | k + 1, h => by
    rw [take_snocI (by rw [tbl_len]; omega), sumI_snoc, invs_tbl (by omega), tbl_at (by omega)]
    rfl
theorem sum_tbl {L : List Int} : sumI (tbl L) = invs L L.length := by
  rw [← invs_tbl (Nat.le_refl _), List.take_of_length_le (by rw [tbl_len]; omega)]
end Go.Proofs.Ytfbkoombkmpjkaa
