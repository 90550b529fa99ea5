/- Plain law: Cycled undoes Written; the records of the written cycles. No program in sight. -/
import Derived.Test.YtfbkoombkmpjkaaPWr
namespace Go.Proofs.Ytfbkoombkmpjkaa
open CY PO
namespace CL
def F (A : List Int) (i : Nat) : List Int := (cycs A i).flatten
theorem F_top {A : List Int} {i : Nat} (ht : top A i) : F A (i + 1) = F A i ++ cyc A i := by
  unfold F; simp only [cycs]; rw [if_pos ht]; simp
theorem F_not {A : List Int} {i : Nat} (ht : ¬ top A i) : F A (i + 1) = F A i := by
  unfold F; simp only [cycs]; rw [if_neg ht]; simp
theorem F_pre {A : List Int} {i : Nat} : ∀ {d : Nat}, ∃ R, F A (i + d) = F A i ++ R
  | 0 => ⟨[], by simp⟩
  | d + 1 => by
    obtain ⟨R, hR⟩ := F_pre (A := A) (i := i) (d := d)
    by_cases ht : top A (i + d)
    · exact ⟨R ++ cyc A (i + d), by rw [show i + (d + 1) = i + d + 1 by omega, F_top ht, hR]; simp⟩
    · exact ⟨R, by rw [show i + (d + 1) = i + d + 1 by omega, F_not ht, hR]⟩
section
variable {A : List Int} (h : Ok A)
include h
/-- A block of the written cycles. -/
theorem blk {i : Nat} (hi : i < A.length) (ht : top A i) : ∃ m, (F A (i + 1)).length = (F A i).length + (m + 1) ∧ (F A (i + 1)).length ≤ (F A A.length).length ∧ it A i (m + 1) = i ∧ (∀ j, 1 ≤ j → j ≤ m → it A i j < i) ∧ cyc A i = lead A i (m + 1) ∧
    ∀ j, j < m + 1 → (F A A.length).getD ((F A i).length + j) 0 = (it A i j : Int) + 1 := by
  obtain ⟨m, e, hm, hl⟩ := cyc_top h hi ht
  obtain ⟨R, hR⟩ := F_pre (A := A) (i := i + 1) (d := A.length - (i + 1))
  rw [show i + 1 + (A.length - (i + 1)) = A.length by omega] at hR
  have h1 : (F A (i + 1)).length = (F A i).length + (m + 1) := by rw [F_top ht, List.length_append, e, lead_len]
  refine ⟨m, h1, by rw [hR]; simp, hm, hl, e, fun j hj => ?_⟩
  have hlt : (F A i).length + j < (F A (i + 1)).length := by omega
  rw [hR, F_top ht, e]
  simp only [List.getD]
  rw [List.getElem?_append_left (by rw [List.length_append, lead_len]; omega), List.getElem?_append_right (by omega), show (F A i).length + j - (F A i).length = j by omega]
  simp [lead, hj]
theorem most_F : ∀ {i : Nat}, i ≤ A.length → mostB (F A A.length) (F A i).length ≤ i ∧ (recs (F A A.length) (F A i).length).length = (cycs A i).length
  | 0, _ => by simp [F, cycs, mostB, recs]
  | i + 1, hi => by
    obtain ⟨ih1, ih2⟩ := most_F (i := i) (by omega)
    by_cases ht : top A i
    · obtain ⟨m, h1, _, _, hl, _, hv⟩ := blk h (i := i) (by omega) ht
      have hr : isR (F A A.length) (F A i).length := by
        have := hv 0 (by omega)
        rw [Nat.add_zero] at this
        show mostB _ _ < _
        rw [this]; show _ < ((i : Nat) : Int) + 1; omega
      have key : ∀ j, j ≤ m → mostB (F A A.length) ((F A i).length + (j + 1)) = (i : Int) + 1 ∧ (recs (F A A.length) ((F A i).length + (j + 1))).length = (recs (F A A.length) (F A i).length).length + 1 := by
        intro j
        induction j with
        | zero =>
          intro _
          have h0 := hv 0 (by omega)
          rw [Nat.add_zero] at h0
          refine ⟨?_, ?_⟩
          · show (if (F A A.length).getD (F A i).length 0 > mostB (F A A.length) (F A i).length then _ else _) = _
            rw [if_pos (show (F A A.length).getD (F A i).length 0 > mostB (F A A.length) (F A i).length from hr), h0]; rfl
          · rw [show (F A i).length + (0 + 1) = (F A i).length + 1 by omega, recs_pos hr]; simp
        | succ j ihj =>
          intro hjm
          obtain ⟨k1, k2⟩ := ihj (by omega)
          have hv' := hv (j + 1) (by omega)
          have hlt := hl (j + 1) (by omega) hjm
          have hnr : ¬ isR (F A A.length) ((F A i).length + (j + 1)) := by
            show ¬ mostB _ _ < _
            rw [hv', k1]; omega
          refine ⟨?_, ?_⟩
          · show (if (F A A.length).getD ((F A i).length + (j + 1)) 0 > mostB (F A A.length) ((F A i).length + (j + 1)) then _ else mostB (F A A.length) ((F A i).length + (j + 1))) = _
            rw [if_neg (show ¬ (F A A.length).getD ((F A i).length + (j + 1)) 0 > mostB (F A A.length) ((F A i).length + (j + 1)) from hnr), k1]
          · rw [show (F A i).length + (j + 1 + 1) = (F A i).length + (j + 1) + 1 by omega, recs_neg hnr, k2]
      obtain ⟨k1, k2⟩ := key m (Nat.le_refl _)
      rw [h1, k1, k2, ih2]
      refine ⟨by push_cast; omega, ?_⟩
      simp only [cycs]; rw [if_pos ht]; simp
    · rw [F_not ht]
      refine ⟨by push_cast; omega, ?_⟩
      rw [ih2]; simp only [cycs]; rw [if_neg ht]; simp
theorem rec_F : ∀ {d i : Nat}, i + d = A.length → (F A i).length < (F A A.length).length → isR (F A A.length) (F A i).length
  | 0, i, hi, hlt => by
    have : i = A.length := by omega
    subst this; omega
  | d + 1, i, hi, hlt => by
    by_cases ht : top A i
    · obtain ⟨m, _, _, _, _, _, hv⟩ := blk h (i := i) (by omega) ht
      have h0 := hv 0 (by omega)
      rw [Nat.add_zero] at h0
      have := (most_F h (i := i) (by omega)).1
      show mostB _ _ < _
      rw [h0]; show _ < ((i : Nat) : Int) + 1; omega
    · have := rec_F (d := d) (i := i + 1) (by omega) (by rw [F_not ht]; exact hlt)
      rwa [F_not ht] at this
theorem not_rec {i : Nat} (hi : i < A.length) (ht : top A i) : ∀ p, (F A i).length < p → p < (F A (i + 1)).length → ¬ isR (F A A.length) p := by
  obtain ⟨m, h1, _, _, hl, _, hv⟩ := blk h hi ht
  intro p hp1 hp2
  obtain ⟨j, hj⟩ : ∃ j, p = (F A i).length + (j + 1) := ⟨p - (F A i).length - 1, by omega⟩
  subst hj
  have h0 := hv 0 (by omega)
  rw [Nat.add_zero] at h0
  have hge := most_ge (L := F A A.length) (i := (F A i).length) (r := (F A i).length + (j + 1)) (by omega)
  rw [h0] at hge
  have h2 := hv (j + 1) (by omega)
  have h3 := hl (j + 1) (by omega) (by omega)
  show ¬ mostB _ _ < _
  rw [h2]
  have : ((it A i 0 : Nat) : Int) = i := rfl
  omega
/-- Cycled undoes Written. -/
theorem cy_wrt : cyK (F A A.length) (F A A.length).length = A := by
  have hWl : (F A A.length).length = A.length := flat_len h
  have hWo : Ok (F A A.length) := flat_ok h
  refine list_ext (by rw [cyK_len, hWl]) fun x hx => ?_
  rw [cyK_len, hWl] at hx
  obtain ⟨i, hi, ht, m', hm'⟩ := (mem_flat h (Nat.le_refl _)).1 (flat_all h hx)
  obtain ⟨m, h1, h2, hm, hl, he, hv⟩ := blk h hi ht
  have hmem := (mem_cyc h hi ht).2 ⟨m', hm'⟩
  rw [he] at hmem
  obtain ⟨j, hj, hjx⟩ := List.mem_map.1 hmem
  have hj' : j < m + 1 := by simpa using hj
  have hjx' : it A i j = x := by omega
  have hlt : (F A i).length < (F A A.length).length := by omega
  have hr := rec_F h (d := A.length - i) (i := i) (by omega) hlt
  have hnx := nx_eq (L := F A A.length) (s := (F A i).length) (e := (F A (i + 1)).length) (d := j) (.inl hr) (not_rec h hi ht) h2 (fun hl => rec_F h (d := A.length - (i + 1)) (i := i + 1) (by omega) hl) (by omega)
  have hat := cyK_at hWo (Nat.le_refl _) ((F A i).length + j) (by omega)
  have hn : nxt (F A A.length) ((F A i).length + j) = x := by
    show ((F A A.length).getD ((F A i).length + j) 0 - 1).toNat = x
    rw [hv j hj']; omega
  rw [hn, hnx] at hat
  rw [hat]
  have hax : A.getD x 0 = (it A i (j + 1) : Int) + 1 := by
    show _ = ((nxt A (it A i j) : Nat) : Int) + 1
    rw [hjx', (h.nxt_lt hx).2]
  rw [hax]
  by_cases c : j + 1 < m + 1
  · rw [if_pos (by omega), show (F A i).length + j + 1 = (F A i).length + (j + 1) by omega, hv (j + 1) c]
  · rw [if_neg (by omega)]
    have h0 := hv 0 (by omega)
    rw [Nat.add_zero] at h0
    rw [h0, show j + 1 = m + 1 by omega, hm]; rfl
theorem recs_wrt : (recs (F A A.length) (F A A.length).length).length = (cycs A A.length).length := (most_F h (Nat.le_refl _)).2
end
end CL
end Go.Proofs.Ytfbkoombkmpjkaa
