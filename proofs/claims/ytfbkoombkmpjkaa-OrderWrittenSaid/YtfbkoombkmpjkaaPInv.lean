/- Plain law: the inverse order, written place by place; the ranks of any list are an order. No program in sight. -/
import Derived.Test.YtfbkoombkmpjkaaPPerm
namespace Go.Proofs.Ytfbkoombkmpjkaa
open CY PO
/-- The inverse order, after the first k numbers. -/
def invK (L : List Int) : Nat → List Int
  | 0 => List.replicate L.length 0
  | k + 1 => (invK L k).set (nxt L k) ((k : Int) + 1)
theorem invK_len {L : List Int} : ∀ {k : Nat}, (invK L k).length = L.length
  | 0 => by simp [invK]
  | k + 1 => by simp [invK, invK_len]
theorem invK_at {L : List Int} (h : Ok L) : ∀ {k : Nat}, k ≤ L.length → ∀ i, i < k → (invK L k).getD (nxt L i) 0 = (i : Int) + 1
  | 0, _, i, hi => by omega
  | k + 1, hk, i, hi => by
    simp only [invK]
    rw [getD_set (by rw [invK_len]; exact (h.nxt_lt (by omega)).1)]
    by_cases e : i = k
    · subst e; rw [if_pos rfl]
    · rw [if_neg fun e2 => e (h.nxt_inj (by omega) (by omega) e2), invK_at h (by omega) i (by omega)]
theorem invK_inv {L : List Int} (h : Ok L) : IsInv L (invK L L.length) := ⟨invK_len, fun i hi => invK_at h (Nat.le_refl _) i hi⟩
/-- The rank of place i among the first k. -/
def rk (L : List Int) (i : Nat) : Nat → Int
  | 0 => 1
  | k + 1 => rk L i k + if L.getD k 0 < L.getD i 0 ∨ (L.getD k 0 = L.getD i 0 ∧ k < i) then 1 else 0
def tmK (L : List Int) (n : Nat) : Nat → List Int
  | 0 => []
  | i + 1 => tmK L n i ++ [rk L i n]
/-- The ranks of the numbers of a list (at most 12). -/
def tme (L : List Int) : List Int := tmK L (min L.length 12) (min L.length 12)
theorem rk_bnd {L : List Int} {i : Nat} : ∀ {k : Nat}, 1 ≤ rk L i k ∧ rk L i k ≤ k + 1
  | 0 => by simp [rk]
  | k + 1 => by
    have := rk_bnd (L := L) (i := i) (k := k)
    simp only [rk]
    split <;> omega
theorem rk_bnd2 {L : List Int} {i : Nat} : ∀ {k : Nat}, i < k → rk L i k ≤ k
  | k + 1, h => by
    simp only [rk]
    by_cases e : i = k
    · subst e
      rw [if_neg (by omega)]
      have := rk_bnd (L := L) (i := i) (k := i)
      omega
    · have := rk_bnd2 (L := L) (i := i) (k := k) (by omega)
      split <;> omega
theorem rk_mono {L : List Int} {i j : Nat} (h : L.getD i 0 < L.getD j 0 ∨ (L.getD i 0 = L.getD j 0 ∧ i < j)) : ∀ {k : Nat}, rk L i k + (if i < k then 1 else 0) ≤ rk L j k
  | 0 => by simp [rk]
  | k + 1 => by
    have ih := rk_mono h (k := k)
    simp only [rk]
    by_cases e : i = k
    · subst e
      rw [if_neg (by omega), if_pos (by omega), if_pos h]
      rw [if_neg (by omega)] at ih
      omega
    · by_cases c : L.getD k 0 < L.getD i 0 ∨ (L.getD k 0 = L.getD i 0 ∧ k < i)
      · rw [if_pos c, if_pos (show L.getD k 0 < L.getD j 0 ∨ (L.getD k 0 = L.getD j 0 ∧ k < j) by omega)]
        split at ih <;> split <;> omega
      · rw [if_neg c]
        split at ih <;> split <;> split <;> omega
theorem tmK_len {L : List Int} {n : Nat} : ∀ {i : Nat}, (tmK L n i).length = i
  | 0 => rfl
  | i + 1 => by simp [tmK, tmK_len]
theorem tmK_at {L : List Int} {n : Nat} : ∀ {k i : Nat}, i < k → (tmK L n k).getD i 0 = rk L i n
  | k + 1, i, h => by
    simp only [tmK]
    by_cases e : i < k
    · have := tmK_at (L := L) (n := n) e
      simp only [List.getD] at this ⊢
      rw [List.getElem?_append_left (by rw [tmK_len]; exact e), this]
    · have : i = k := by omega
      subst this
      simp only [List.getD]
      rw [List.getElem?_append_right (by rw [tmK_len]; omega), tmK_len]
      simp
theorem tme_len {L : List Int} : (tme L).length = min L.length 12 := tmK_len
theorem tme_ord (L : List Int) : IsOrd (tme L) := by
  refine ⟨by rw [tme_len]; omega, fun i hi => ?_⟩
  rw [tme_len] at hi ⊢
  have h1 := rk_bnd (L := L) (i := i) (k := min L.length 12)
  have h2 := rk_bnd2 (L := L) (i := i) (k := min L.length 12) hi
  have e1 : (tme L).getD i 0 = rk L i (min L.length 12) := tmK_at hi
  rw [e1]
  refine ⟨⟨h1.1, h2⟩, fun k hk => ?_⟩
  have e2 : (tme L).getD k 0 = rk L k (min L.length 12) := tmK_at (by omega)
  rw [e2]
  by_cases c : L.getD k 0 ≤ L.getD i 0
  · have := rk_mono (L := L) (i := k) (j := i) (by omega) (k := min L.length 12)
    rw [if_pos (by omega)] at this
    omega
  · have := rk_mono (L := L) (i := i) (j := k) (by omega) (k := min L.length 12)
    rw [if_pos (by omega)] at this
    omega
end Go.Proofs.Ytfbkoombkmpjkaa
