/- Plain law: a level table: its choices, its layers' weights, its permanent. No program in sight. -/
import Derived.Test.YtdpckinhoooigaaPVdW
import Derived.Test.YtdpckinhoooigaaPLay
import Derived.Test.YtdpckinhoooigaaPCount
import Derived.Test.YtdpckinhoooigaaPSplit
namespace Go.Proofs.Ytdpckinhoooigaa
open Gv PM MM
/-- The weights of the first k layers. -/
def wsum (L : List (Int × List Int)) : Nat → Int
  | 0 => 0
  | k + 1 => wsum L k + (L.getD k (0, [])).1
theorem wsum_cols {n : Nat} {L : List (Int × List Int)} (hn : 1 ≤ n) : ∀ k, (∀ i, i < k → Cols n (L.getD i (0, [])).2) → sumN n (fun c => lsum L 0 (c : Int) k) = wsum L k
  | 0, _ => by simp only [lsum, wsum]; exact sumN_zero n
  | k + 1, h => by
    have ih := wsum_cols hn (L := L) k fun i hi => h i (by omega)
    have hC := h k (by omega)
    obtain ⟨c1, c2, _⟩ := hC.2 0 (by rw [hC.1]; omega)
    simp only [lsum, wsum]
    rw [sumN_add, ih]
    congr 1
    rw [sumN_single (k := ((L.getD k (0, [])).2.getD 0 0).toNat) (by omega) _ fun c _ hne => if_neg (by omega), if_pos (by omega)]
theorem wsum_lay {T : List (List Int)} {k : Nat} {L : List (Int × List Int)} (hn : 1 ≤ T.length) (hL : LevAt T (k : Int)) (h : RefLay T L) : wsum L L.length = k := by
  rw [← wsum_cols hn L.length fun i hi => (h.2.1 i hi).2.1, ← (hL 0 (by omega)).1]
  unfold rsum
  exact sumN_congr fun c hc => h.2.2 0 (by omega) c hc
theorem wgt_lay {T : List (List Int)} {L : List (Int × List Int)} (hT : IsTab T) (hn : 1 ≤ T.length) (h : RefLay T L) {i : Nat} (hi : i < L.length) : 1 ≤ (L.getD i (0, [])).1 ∧ (L.getD i (0, [])).1 ≤ 9 := by
  obtain ⟨h1, h2, h3⟩ := h.2.1 i hi
  obtain ⟨c1, c2, _⟩ := h2.2 0 (by rw [h2.1]; omega)
  have h4 := h3 0 (by omega)
  have h5 := (ent_ok hT (i := 0) (c := ((L.getD i (0, [])).2.getD 0 0).toNat) (by omega) (by omega)).2
  have h6 : lsum L 0 ((L.getD i (0, [])).2.getD 0 0) 0 ≤ lsum L 0 ((L.getD i (0, [])).2.getD 0 0) i := lsum_mono (fun j hj => (h.2.1 j hj).1) (Nat.zero_le _) (by omega)
  have h7 : lsum L 0 ((L.getD i (0, [])).2.getD 0 0) 0 = 0 := rfl
  exact ⟨h1, by omega⟩
theorem wsum_nn {L : List (Int × List Int)} (h : ∀ i, i < L.length → 1 ≤ (L.getD i (0, [])).1 ∧ (L.getD i (0, [])).1 ≤ 9) : ∀ {k : Nat}, k ≤ L.length → 0 ≤ wsum L k ∧ wsum L k ≤ 9 * k
  | 0, _ => by simp [wsum]
  | k + 1, hk => by
    have := wsum_nn h (k := k) (by omega)
    have := h k (by omega)
    simp only [wsum]; omega
theorem lev_zero_all {T : List (List Int)} (hT : IsTab T) (hL : LevAt T 0) (hn : 1 ≤ T.length) : ¬ ∃ p, Choice T.length (ent T) p := by
  rintro ⟨p, h1, _⟩
  obtain ⟨a, b⟩ := h1 0 (by omega)
  exact b (lev_zero hT hL (by omega) a)
theorem kk_pos {k n : Nat} (hk : 0 < k) : (0 : Int) < (k : Int) ^ n := Int.pow_pos (by omega)
theorem fct_pos : ∀ n : Nat, 0 < VW.fct n
  | 0 => by decide
  | n + 1 => Nat.mul_pos (by omega) (fct_pos n)
theorem lev_vdw {T : List (List Int)} {k : Nat} (hT : IsTab T) (hL : LevAt T (k : Int)) : (VW.fct T.length : Int) * (k : Int) ^ T.length ≤ (T.length : Int) ^ T.length * pmI (ent T) T.length T.length (2 ^ T.length - 1) := by
  rw [pmI_per]
  refine VW.vdw (fun i c hi hc => (ent_ok hT hi hc).1) (fun i hi => ?_) fun c hc => ?_
  · have := (hL i hi).1
    unfold rsum at this
    rw [sumN_L] at this
    exact this
  · have := (hL c hc).2
    unfold csum at this
    rw [sumN_L] at this
    exact this
theorem lev_choice {T : List (List Int)} {k : Nat} (hT : IsTab T) (hL : LevAt T (k : Int)) (hk : 0 < k) : ∃ p, Choice T.length (ent T) p := by
  have h1 := lev_vdw hT hL
  rw [pmI_per] at h1
  refine (per_pos fun r c hr hc => (ent_ok hT hr hc).1).1 ?_
  by_cases h2 : 0 < per (ent T) T.length
  · exact h2
  · exfalso
    have h3 := kk_pos (n := T.length) hk
    have h4 := fct_pos T.length
    have h5 := Int.mul_pos (show (0 : Int) < (VW.fct T.length : Int) by omega) h3
    have h6 : (0 : Int) ≤ (T.length : Int) ^ T.length := Int.pow_nonneg (by omega)
    have h7 := Int.mul_nonneg h6 (show 0 ≤ -per (ent T) T.length by omega)
    grind
theorem pm_bnd {T : List (List Int)} (hT : IsTab T) (hn : T.length ≤ 6) : 0 ≤ pmI (ent T) T.length T.length (2 ^ T.length - 1) ∧ pmI (ent T) T.length T.length (2 ^ T.length - 1) ≤ 382637520 := by
  refine ⟨?_, ?_⟩
  · rw [pmI_per]
    exact VW.pL_nonneg fun r hr c hc => by
      obtain ⟨i, hi, rfl⟩ := List.mem_map.1 hr
      exact (ent_ok hT (by simpa using hi) (by simpa using hc)).1
  · have h1 := pmI_le (A := ent T) (n := T.length) (i := T.length) (2 ^ T.length - 1) fun j c hj hc => ent_ok hT hj hc
    have h2 := bnd9_mono hn
    have h3 : bnd9 6 = 382637520 := by decide
    omega
theorem npow_le {n i : Nat} (hn : n ≤ 9) (hi : i ≤ 6) : n ^ i ≤ 531441 := by
  have h1 := Nat.pow_le_pow_left hn i
  have h2 := Nat.pow_le_pow_right (show 0 < 9 by decide) hi
  have h3 : (9 : Nat) ^ 6 = 531441 := by decide
  omega
theorem npow_leI {n i : Nat} (hn : n ≤ 9) (hi : i ≤ 6) : (n : Int) ^ i ≤ 531441 := by
  have h1 := npow_le hn hi
  have h2 : ((n ^ i : Nat) : Int) = (n : Int) ^ i := Int.natCast_pow n i
  omega
theorem fct_le {i : Nat} (hi : i ≤ 6) : VW.fct i ≤ 720 := by
  have : ∀ i, i < 7 → VW.fct i ≤ 720 := by decide
  exact this i (by omega)
end Go.Proofs.Ytdpckinhoooigaa
