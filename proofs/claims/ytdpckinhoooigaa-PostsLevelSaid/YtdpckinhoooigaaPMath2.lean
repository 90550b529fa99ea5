/- Plain law: the permanent as a sum over lists of rows and columns: the order of the rows, a sum of two rows, rows and columns exchanged. No program in sight. -/
import Derived.Test.YtdpckinhoooigaaPMath
namespace Go.Proofs.Ytdpckinhoooigaa
namespace PM
def sumL (C : List Nat) (f : Nat → Int) : Int := (C.map f).sum
theorem sumL_cons (c : Nat) (C : List Nat) (f : Nat → Int) : sumL (c :: C) f = f c + sumL C f := by simp [sumL]
theorem sumL_nil (f : Nat → Int) : sumL [] f = 0 := rfl
theorem sumL_congr {C : List Nat} {f g : Nat → Int} (h : ∀ c, c ∈ C → f c = g c) : sumL C f = sumL C g := by
  unfold sumL; rw [List.map_congr_left h]
theorem sumL_add (C : List Nat) (f g : Nat → Int) : sumL C (fun c => f c + g c) = sumL C f + sumL C g := by
  induction C with
  | nil => rfl
  | cons c C ih => simp only [sumL_cons, ih]; omega
theorem sumL_mul (C : List Nat) (a : Int) (f : Nat → Int) : sumL C (fun c => a * f c) = a * sumL C f := by
  induction C with
  | nil => simp [sumL]
  | cons c C ih => simp only [sumL_cons, ih, Int.mul_add]
theorem sumL_sub (C : List Nat) (f g : Nat → Int) : sumL C (fun c => f c - g c) = sumL C f - sumL C g := by
  induction C with
  | nil => rfl
  | cons c C ih => simp only [sumL_cons, ih]; omega
theorem sumL_erase {C : List Nat} {c : Nat} (h : c ∈ C) (f : Nat → Int) : sumL (C.erase c) f = sumL C f - f c := by
  induction C with
  | nil => cases h
  | cons a C ih =>
    by_cases e : a = c
    · subst e; simp [sumL_cons]; omega
    · rw [List.erase_cons_tail (by simpa using e), sumL_cons, sumL_cons, ih ((List.mem_cons.1 h).resolve_left (Ne.symm e))]; omega
theorem sumL_swap (C D : List Nat) (g : Nat → Nat → Int) : sumL C (fun c => sumL D (fun d => g c d)) = sumL D (fun d => sumL C (fun c => g c d)) := by
  induction C with
  | nil =>
    simp only [sumL_nil]
    induction D with
    | nil => rfl
    | cons d D ih => rw [sumL_cons, ← ih]; rfl
  | cons c C ih => simp only [sumL_cons, ih, sumL_add]
def pL : List (Nat → Int) → List Nat → Int
  | [], C => if C = [] then 1 else 0
  | r :: rs, C => sumL C fun c => r c * pL rs (C.erase c)
theorem pL_swap (r1 r2 : Nat → Int) (rs : List (Nat → Int)) (C : List Nat) : pL (r1 :: r2 :: rs) C = pL (r2 :: r1 :: rs) C := by
  have h : ∀ (r1 r2 : Nat → Int), pL (r1 :: r2 :: rs) C = sumL C (fun c => sumL C (fun d => r1 c * (r2 d * pL rs ((C.erase c).erase d)))) - sumL C (fun c => r1 c * (r2 c * pL rs ((C.erase c).erase c))) := fun r1 r2 => by
    simp only [pL]
    rw [← sumL_sub]
    apply sumL_congr
    intro c hc
    rw [← sumL_mul, sumL_erase hc]
  rw [h r1 r2, h r2 r1, sumL_swap C C]
  congr 1
  · apply sumL_congr; intro c _
    apply sumL_congr; intro d _
    rw [List.erase_comm, Int.mul_left_comm]
  · apply sumL_congr; intro c _
    rw [Int.mul_left_comm]
theorem pL_perm {R R' : List (Nat → Int)} (h : R.Perm R') : ∀ C, pL R C = pL R' C := by
  induction h with
  | nil => intro C; rfl
  | cons x _ ih => intro C; simp only [pL]; apply sumL_congr; intro c _; rw [ih]
  | swap x y l => intro C; exact pL_swap y x l C
  | trans _ _ ih1 ih2 => intro C; rw [ih1, ih2]
theorem pL_add (r1 r2 : Nat → Int) (rs : List (Nat → Int)) (C : List Nat) : pL ((fun c => r1 c + r2 c) :: rs) C = pL (r1 :: rs) C + pL (r2 :: rs) C := by
  simp only [pL]; rw [← sumL_add]; apply sumL_congr; intro c _; rw [Int.add_mul]
theorem pL_cols {A : Nat → Nat → Int} : ∀ (R C : List Nat) (c : Nat), R.Nodup → c ∉ C → pL (R.map A) (c :: C) = sumL R fun r => A r c * pL ((R.erase r).map A) C
  | [], C, c, _, _ => by simp [pL, sumL]
  | r0 :: R, C, c, hR, hc => by
    simp only [List.nodup_cons] at hR
    simp only [List.map_cons, pL, sumL_cons, List.erase_cons_head]
    congr 1
    rw [sumL_congr (g := fun c' => A r0 c' * sumL R fun r => A r c * pL ((R.erase r).map A) (C.erase c'))]
    · have h2 : ∀ r, r ∈ R → A r c * pL (((r0 :: R).erase r).map A) C = sumL C fun c' => A r0 c' * (A r c * pL ((R.erase r).map A) (C.erase c')) := by
        intro r hr
        have hne : r0 ≠ r := by rintro rfl; exact hR.1 hr
        rw [List.erase_cons_tail (by simpa using hne)]
        simp only [List.map_cons, pL]
        rw [← sumL_mul]
        apply sumL_congr; intro c' _
        rw [Int.mul_left_comm]
      rw [sumL_congr h2, sumL_swap]
      apply sumL_congr; intro c' _
      rw [← sumL_mul]
    · intro c' hc'
      have hne : c ≠ c' := by rintro rfl; exact hc hc'
      rw [List.erase_cons_tail (by simpa using hne), pL_cols R (C.erase c') c hR.2 fun h => hc (List.mem_of_mem_erase h)]
theorem pL_turn {A : Nat → Nat → Int} : ∀ (C R : List Nat), R.Nodup → C.Nodup → pL (R.map A) C = pL (C.map fun j i => A i j) R
  | [], R, _, _ => by
    cases R with
    | nil => rfl
    | cons r R => simp [pL, sumL]
  | c :: C, R, hR, hC => by
    simp only [List.nodup_cons] at hC
    rw [pL_cols R C c hR hC.1]
    simp only [List.map_cons, pL]
    apply sumL_congr
    intro r _
    rw [pL_turn C (R.erase r) (hR.erase r) hC.2]
/- The sets of columns as lists. -/
def bits (n S : Nat) : List Nat := (List.range n).filter fun c => S.testBit c
theorem sumN_bits (n S : Nat) (f : Nat → Int) : sumN n (fun c => if S.testBit c then f c else 0) = sumL (bits n S) f := by
  induction n with
  | zero => rfl
  | succ n ih =>
    simp only [sumN, bits, List.range_succ, List.filter_append]
    unfold sumL at *
    rw [List.map_append, List.sum_append, ih]
    congr 1
    by_cases h : S.testBit n <;> simp [h]
theorem bits_sub {n S c : Nat} (hc : c ∈ bits n S) : bits n (S - 2 ^ c) = (bits n S).erase c := by
  have hb : S.testBit c = true := by simp only [bits, List.mem_filter] at hc; exact hc.2
  have hn : (bits n S).Nodup := List.nodup_range.sublist List.filter_sublist
  rw [hn.erase_eq_filter]
  unfold bits
  rw [List.filter_filter]
  apply List.filter_congr
  intro j _
  rw [sub_bit_testBit hb]
  by_cases e : j = c <;> simp [e, Bool.and_comm]
theorem bits_nil {n S : Nat} (hS : S < 2 ^ n) : bits n S = [] ↔ S = 0 := by
  constructor
  · intro h
    apply Nat.eq_of_testBit_eq
    intro i
    rw [Nat.zero_testBit]
    by_cases hi : i < n
    · cases hb : S.testBit i with
      | false => rfl
      | true =>
        have : i ∈ bits n S := by simp [bits, hi, hb]
        rw [h] at this; cases this
    · exact Nat.testBit_lt_two_pow (Nat.lt_of_lt_of_le hS (Nat.pow_le_pow_right (by decide) (by omega)))
  · rintro rfl
    simp [bits]
def rl (A : Nat → Nat → Int) : Nat → List (Nat → Int)
  | 0 => []
  | i + 1 => A i :: rl A i
theorem pmI_pL {A : Nat → Nat → Int} {n : Nat} : ∀ {i S : Nat}, S < 2 ^ n → pmI A n i S = pL (rl A i) (bits n S)
  | 0, S, hS => by simp only [pmI, rl, pL, bits_nil hS]
  | i + 1, S, hS => by
    simp only [pmI, rl, pL, sumN_bits]
    apply sumL_congr
    intro c hc
    rw [pmI_pL (Nat.lt_of_le_of_lt (Nat.sub_le _ _) hS), bits_sub hc]
theorem rl_perm (A : Nat → Nat → Int) (n : Nat) : (rl A n).Perm ((List.range n).map A) := by
  induction n with
  | zero => exact List.Perm.refl _
  | succ n ih =>
    rw [List.range_succ, List.map_append]
    exact (ih.cons _).trans (List.perm_append_singleton _ _).symm
theorem bits_all (n : Nat) : bits n (2 ^ n - 1) = List.range n := by
  unfold bits
  apply List.filter_eq_self.2
  intro c hc
  simp only [List.mem_range] at hc
  simp [Nat.testBit_two_pow_sub_one, hc]
/-- The permanent. -/
def per (A : Nat → Nat → Int) (n : Nat) : Int := pL ((List.range n).map A) (List.range n)
theorem pmI_per (A : Nat → Nat → Int) (n : Nat) : pmI A n n (2 ^ n - 1) = per A n := by
  rw [pmI_pL (by have := Nat.two_pow_pos n; omega), bits_all, pL_perm (rl_perm A n)]; rfl
theorem pL_congr {A B : Nat → Nat → Int} : ∀ (R C : List Nat), (∀ i, i ∈ R → ∀ c, c ∈ C → A i c = B i c) → pL (R.map A) C = pL (R.map B) C
  | [], _, _ => rfl
  | i :: R, C, h => by
    simp only [List.map_cons, pL]
    apply sumL_congr
    intro c hc
    rw [h i List.mem_cons_self c hc, pL_congr R (C.erase c) fun j hj d hd => h j (List.mem_cons_of_mem _ hj) d (List.mem_of_mem_erase hd)]
theorem per_congr {A B : Nat → Nat → Int} {n : Nat} (h : ∀ i c, i < n → c < n → A i c = B i c) : per A n = per B n :=
  pL_congr _ _ fun i hi c hc => h i c (by simpa using hi) (by simpa using hc)
theorem per_turn (A : Nat → Nat → Int) (n : Nat) : per (fun i j => A j i) n = per A n :=
  (pL_turn (A := A) (List.range n) (List.range n) List.nodup_range List.nodup_range).symm
theorem range_erase {n i : Nat} (hi : i < n) : (List.range n).Perm (i :: (List.range n).erase i) := List.perm_cons_erase (by simpa using hi)
theorem per_row (A : Nat → Nat → Int) {n i : Nat} (hi : i < n) : per A n = pL (A i :: ((List.range n).erase i).map A) (List.range n) := by
  unfold per; rw [pL_perm ((range_erase hi).map A)]; rfl
/-- A row as the sum of two others. -/
theorem per_add {A : Nat → Nat → Int} {n i k : Nat} (hi : i < n) : per (fun j c => if j = i then A i c + A k c else A j c) n = per A n + per (fun j c => if j = i then A k c else A j c) n := by
  have hne : ∀ j, j ∈ (List.range n).erase i → j ≠ i := fun j hj e => by subst e; exact (List.nodup_range.not_mem_erase) hj
  rw [per_row _ hi, per_row A hi, per_row (fun j c => if j = i then A k c else A j c) hi]
  have e1 : ((List.range n).erase i).map (fun j c => if j = i then A i c + A k c else A j c) = ((List.range n).erase i).map A := List.map_congr_left fun j hj => by simp [hne j hj]
  have e2 : ((List.range n).erase i).map (fun j c => if j = i then A k c else A j c) = ((List.range n).erase i).map A := List.map_congr_left fun j hj => by simp [hne j hj]
  rw [e1, e2, ← pL_add]
  simp
/-- Two rows exchanged. -/
theorem per_exch {A : Nat → Nat → Int} {n i k : Nat} (hi : i < n) (hk : k < n) : per (fun j => if j = i then A k else if j = k then A i else A j) n = per A n := by
  unfold per
  apply pL_perm
  have : (List.range n).map (fun j => if j = i then A k else if j = k then A i else A j) = ((List.range n).map fun j => if j = i then k else if j = k then i else j).map A := by
    rw [List.map_map]; apply List.map_congr_left; intro j _; simp only [Function.comp]; split
    · rfl
    · split <;> rfl
  rw [this]
  apply List.Perm.map
  rw [List.perm_ext_iff_of_nodup]
  · intro a
    simp only [List.mem_map, List.mem_range]
    constructor
    · rintro ⟨j, hj, rfl⟩; split <;> (try split) <;> omega
    · intro ha
      refine ⟨if a = i then k else if a = k then i else a, ?_, ?_⟩
      · split <;> (try split) <;> omega
      · by_cases h1 : a = i
        · subst h1; by_cases h2 : k = a
          · subst h2; simp
          · simp [h2]
        · by_cases h2 : a = k
          · subst h2; simp [h1]
          · simp [h1, h2]
  · have key : ∀ (l : List Nat), l.Nodup → (l.map fun j => if j = i then k else if j = k then i else j).Nodup := by
      intro l
      induction l with
      | nil => intro _; simp
      | cons a l ih =>
        intro h
        simp only [List.nodup_cons] at h
        simp only [List.map_cons, List.nodup_cons, List.mem_map, not_exists, not_and]
        refine ⟨fun b hb e => h.1 ?_, ih h.2⟩
        have : a = b := by
          revert e; split <;> split <;> (try split) <;> (try split) <;> omega
        rw [this]; exact hb
    exact key _ List.nodup_range
  · exact List.nodup_range
end PM
end Go.Proofs.Ytdpckinhoooigaa
