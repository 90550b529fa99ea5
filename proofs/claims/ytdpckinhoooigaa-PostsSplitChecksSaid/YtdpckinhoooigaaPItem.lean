/- Plain law: the possible choice at a position, looked up column by column. No program in sight. -/
import Derived.Test.YtdpckinhoooigaaPCount
namespace Go.Proofs.Ytdpckinhoooigaa
namespace PM
open MM
/-- Choices that begin with this column. -/
def chF (A : Nat → Nat → Int) (r : Nat) (rs C : List Nat) (c : Nat) : List (List Nat) := if A r c = 0 then [] else (chs A rs (C.erase c)).map (c :: ·)
def frC (C : List Nat) (c : Nat) : List Nat := C.filter fun x => decide (c ≤ x)
theorem frC_succ : ∀ {C : List Nat}, C.Pairwise (· < ·) → ∀ c, frC C c = if c ∈ C then c :: frC C (c + 1) else frC C (c + 1)
  | [], _, c => by simp [frC]
  | a :: C, h, c => by
    rw [List.pairwise_cons] at h
    have ih := frC_succ h.2 c
    unfold frC at *
    simp only [List.filter_cons, List.mem_cons]
    by_cases e : c = a
    · subst e
      have hn : c ∉ C := fun hc => by have := h.1 c hc; omega
      rw [if_neg hn] at ih
      simp [ih]
    · by_cases hlt : c < a
      · have hn : c ∉ C := fun hc => by have := h.1 c hc; omega
        rw [if_neg hn] at ih
        simp [e, hn, show c ≤ a by omega, show c + 1 ≤ a by omega, ih]
      · simp only [e, false_or, show ¬ c ≤ a by omega, show ¬ c + 1 ≤ a by omega, decide_false]
        simpa using ih
theorem frC_zero (C : List Nat) : frC C 0 = C := by unfold frC; exact List.filter_eq_self.2 (by simp)
theorem frC_end {C : List Nat} {n : Nat} (h : ∀ c, c ∈ C → c < n) : frC C n = [] := by
  unfold frC
  rw [List.filter_eq_nil_iff]
  intro c hc
  have := h c hc
  simp; omega
/-- What is still to be looked up at column c. -/
def At (A : Nat → Nat → Int) (r : Nat) (rs C : List Nat) (c k : Nat) (t : List Nat) : Prop := ((frC C c).flatMap (chF A r rs C))[k]? = some t
section
variable {A : Nat → Nat → Int} {r : Nat} {rs C : List Nat} {c k n : Nat} {t : List Nat}
theorem At.start (h : (chs A (r :: rs) C)[k]? = some t) : At A r rs C 0 k t := by unfold At; rw [frC_zero]; exact h
theorem At.skip (hC : C.Pairwise (· < ·)) (h : At A r rs C c k t) (hs : c ∉ C ∨ A r c = 0) : At A r rs C (c + 1) k t := by
  unfold At at *
  rw [frC_succ hC] at h
  split at h
  · rename_i hc
    have := hs.resolve_left (fun e => e hc)
    rw [List.flatMap_cons] at h
    unfold chF at h
    rw [if_pos this, List.nil_append] at h
    exact h
  · exact h
theorem At.hit (hC : C.Pairwise (· < ·)) (h : At A r rs C c k t) (hc : c ∈ C) (hA : A r c ≠ 0) (hk : k < (chs A rs (C.erase c)).length) : ∃ t', (chs A rs (C.erase c))[k]? = some t' ∧ t = c :: t' := by
  unfold At at h
  rw [frC_succ hC, if_pos hc, List.flatMap_cons] at h
  have hl : (chF A r rs C c).length = (chs A rs (C.erase c)).length := by unfold chF; rw [if_neg hA, List.length_map]
  rw [List.getElem?_append_left (by omega)] at h
  unfold chF at h
  rw [if_neg hA, List.getElem?_map, Option.map_eq_some_iff] at h
  obtain ⟨t', h1, h2⟩ := h
  exact ⟨t', h1, h2.symm⟩
theorem At.miss (hC : C.Pairwise (· < ·)) (h : At A r rs C c k t) (hc : c ∈ C) (hA : A r c ≠ 0) (hk : (chs A rs (C.erase c)).length ≤ k) : At A r rs C (c + 1) (k - (chs A rs (C.erase c)).length) t := by
  unfold At at *
  rw [frC_succ hC, if_pos hc, List.flatMap_cons] at h
  have hl : (chF A r rs C c).length = (chs A rs (C.erase c)).length := by unfold chF; rw [if_neg hA, List.length_map]
  rw [List.getElem?_append_right (by omega), hl] at h
  exact h
theorem At.over (hn : ∀ c, c ∈ C → c < n) (h : At A r rs C n k t) : False := by
  unfold At at h
  rw [frC_end hn] at h
  cases h
end
theorem bits_sorted (n S : Nat) : (bits n S).Pairwise (· < ·) := List.pairwise_lt_range.sublist List.filter_sublist
theorem mem_bits {n S c : Nat} : c ∈ bits n S ↔ c < n ∧ S.testBit c = true := by simp [bits]
end PM
end Go.Proofs.Ytdpckinhoooigaa
