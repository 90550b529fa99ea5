/- Plain law: how many ways there are for the rows from one on, by the columns that are used. No program in sight. -/
import Derived.Test.YtdpckinhoooigaaPItem
namespace Go.Proofs.Ytdpckinhoooigaa
namespace PM
open MM
/-- The columns that are not used. -/
def nb (n u : Nat) : List Nat := (List.range n).filter fun c => !u.testBit c
theorem mem_nb {n u c : Nat} : c ∈ nb n u ↔ c < n ∧ u.testBit c = false := by simp [nb]
theorem nb_sorted (n u : Nat) : (nb n u).Pairwise (· < ·) := List.pairwise_lt_range.sublist List.filter_sublist
theorem nb_nodup (n u : Nat) : (nb n u).Nodup := List.nodup_range.sublist List.filter_sublist
theorem nb_zero (n : Nat) : nb n 0 = List.range n := by unfold nb; exact List.filter_eq_self.2 (by simp)
theorem nb_add {n u c : Nat} (hc : c ∈ nb n u) : nb n (u + 2 ^ c) = (nb n u).erase c := by
  have hb := (mem_nb.1 hc).2
  rw [(nb_nodup n u).erase_eq_filter]
  unfold nb
  rw [List.filter_filter]
  apply List.filter_congr
  intro j _
  rw [add_bit_testBit hb]
  by_cases e : j = c <;> simp [e]
def cn (A : Nat → Nat → Int) (n r u : Nat) : Nat := (chs A (List.range' r (n - r)) (nb n u)).length
def cnP (A : Nat → Nat → Int) (n r u : Nat) : Nat → Nat
  | 0 => 0
  | c + 1 => cnP A n r u c + if u.testBit c = false ∧ A r c ≠ 0 then cn A n (r + 1) (u + 2 ^ c) else 0
theorem cn_step {A : Nat → Nat → Int} {n r u : Nat} (hr : r < n) : cn A n r u = cnP A n r u n := by
  unfold cn
  rw [show n - r = n - (r + 1) + 1 by omega, List.range'_succ]
  simp only [chs]
  have : ∀ m, m ≤ n → (((List.range m).filter fun c => !u.testBit c).flatMap fun c => if A r c = 0 then [] else (chs A (List.range' (r + 1) (n - (r + 1))) ((nb n u).erase c)).map (c :: ·)).length = cnP A n r u m := by
    intro m
    induction m with
    | zero => intro _; rfl
    | succ m ih =>
      intro hm
      rw [List.range_succ, List.filter_append, List.flatMap_append, List.length_append, ih (by omega)]
      simp only [cnP]
      congr 1
      by_cases hb : u.testBit m = false
      · by_cases hA : A r m = 0
        · simp [hb, hA]
        · simp only [List.filter_cons, hb, List.filter_nil]
          simp only [Bool.not_false, if_true, List.flatMap_cons, List.flatMap_nil, List.append_nil, hA, if_false, List.length_map, ne_eq, not_false_eq_true, and_self]
          unfold cn
          rw [nb_add (mem_nb.2 ⟨by omega, hb⟩)]
      · simp [hb]
  exact this n (Nat.le_refl _)
theorem cnP_mono (A : Nat → Nat → Int) (n r u : Nat) : ∀ {c d : Nat}, c ≤ d → cnP A n r u c ≤ cnP A n r u d
  | c, 0, h => by have : c = 0 := by omega
                  subst this; exact Nat.le_refl _
  | c, d + 1, h => by
    by_cases e : c = d + 1
    · subst e; exact Nat.le_refl _
    · have := cnP_mono A n r u (c := c) (d := d) (by omega)
      simp only [cnP]; omega
theorem sumL_le_len {f : Nat → Int} {b : Int} : ∀ {D : List Nat}, (∀ c, c ∈ D → 0 ≤ f c ∧ f c ≤ b) → 0 ≤ sumL D f ∧ sumL D f ≤ b * D.length
  | [], _ => by simp [sumL]
  | d :: D, h => by
    have h1 := sumL_le_len (D := D) fun c hc => h c (List.mem_cons_of_mem _ hc)
    have h2 := h d List.mem_cons_self
    rw [sumL_cons, List.length_cons]
    push_cast
    rw [Int.mul_add]
    omega
theorem pL_bnd {A : Nat → Nat → Int} (hA : ∀ r c, 0 ≤ A r c ∧ A r c ≤ 9) : ∀ (R C : List Nat), C.length = R.length → 0 ≤ pL (R.map A) C ∧ pL (R.map A) C ≤ bnd9 R.length
  | [], C, _ => by simp only [List.map_nil, pL, List.length_nil, bnd9]; split <;> decide
  | r :: R, C, h => by
    simp only [List.map_cons, pL, List.length_cons, bnd9]
    have h1 := sumL_le_len (D := C) (f := fun c => A r c * pL (R.map A) (C.erase c)) (b := 9 * bnd9 R.length) fun c hc => by
      have h2 := hA r c
      have h3 := pL_bnd hA R (C.erase c) (by rw [List.length_erase_of_mem hc, h, List.length_cons]; omega)
      exact ⟨Int.mul_nonneg h2.1 h3.1, Int.mul_le_mul h2.2 h3.2 h3.1 (by decide)⟩
    rw [h, List.length_cons] at h1
    exact h1
theorem cn_le {A : Nat → Nat → Int} {n r u : Nat} (hn : n ≤ 10) (hl : (nb n u).length = n - r) : cn A n r u ≤ 12652843234348800 := by
  have h1 := chs_length A (List.range' r (n - r)) (nb n u)
  have h2 := pL_bnd (A := one A) (fun r c => by unfold one; split <;> decide) (List.range' r (n - r)) (nb n u) (by rw [List.length_range', hl])
  have h3 := bnd9_ten (i := (List.range' r (n - r)).length) (by rw [List.length_range']; omega)
  unfold cn
  omega
theorem cn_end {A : Nat → Nat → Int} {n u : Nat} (hl : (nb n u).length = n - n) : cn A n n u = 1 := by
  unfold cn
  rw [Nat.sub_self] at *
  have := List.eq_nil_of_length_eq_zero hl
  rw [this]; rfl
theorem nb_len_add {n u c r : Nat} (_ : r < n) (hc : c ∈ nb n u) (hl : (nb n u).length = n - r) : (nb n (u + 2 ^ c)).length = n - (r + 1) := by
  rw [nb_add hc, List.length_erase_of_mem hc, hl]; omega
end PM
end Go.Proofs.Ytdpckinhoooigaa
