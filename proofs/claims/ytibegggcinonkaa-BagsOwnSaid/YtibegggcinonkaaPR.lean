/- Plain law: core numbers are less than n; the reference's way to them. -/
import Derived.Test.YtibegggcinonkaaPG
namespace Go.Proofs.Ytibegggcinonkaa
theorem nb_nodup {L : List (Int × Int)} {v : Int} (hG : ∀ k, k < L.length → (ed L k).1 < (ed L k).2 ∧ ∀ j, j < k → ed L j ≠ ed L k) : ∀ {m : Nat}, m ≤ L.length → ((nb L v m).map (·.2)).Nodup
  | 0, _ => by simp [nb]
  | m + 1, h => by
    have ih := nb_nodup (v := v) hG (m := m) (by omega)
    have hm := hG m (by omega)
    have hold : ∀ u, u ∈ (nb L v m).map (·.2) → ∃ k, k < m ∧ (((ed L k).1 = v ∧ u = (ed L k).2) ∨ ((ed L k).2 = v ∧ u = (ed L k).1)) := fun u hu => by
      obtain ⟨x, hx, rfl⟩ := List.mem_map.1 hu
      obtain ⟨k, h1, _, h2⟩ := nb_mem hx
      exact ⟨k, h1, h2⟩
    rw [nb, List.map_append, List.nodup_append]
    refine ⟨ih, ?_, ?_⟩
    · split
      · simp
      · split <;> simp
    · intro u hu u' hu' e
      subst e
      obtain ⟨k, hk, h1⟩ := hold u hu
      have h2 := hm.2 k hk
      have h3 := (hG k (by omega)).1
      have h4 := hm.1
      have hu'' : ((ed L m).1 = v ∧ u = (ed L m).2) ∨ ((ed L m).2 = v ∧ u = (ed L m).1) := by
        split at hu'
        · rename_i c
          simp at hu'; exact .inl ⟨c, hu'⟩
        · split at hu'
          · rename_i c
            simp at hu'; exact .inr ⟨c, hu'⟩
          · simp at hu'
      have hne : ¬ ((ed L k).1 = (ed L m).1 ∧ (ed L k).2 = (ed L m).2) := fun c => h2 (Prod.ext c.1 c.2)
      generalize ed L k = p at *
      generalize ed L m = q at *
      omega
theorem nbP_lt {L : List (Int × Int)} {n : Nat} {v : Int} {P : Int → Bool} (hG : ∀ k, k < L.length → (0 ≤ (ed L k).1 ∧ (ed L k).1 < (ed L k).2 ∧ (ed L k).2 < n) ∧ ∀ j, j < k → ed L j ≠ ed L k) (hv : 0 ≤ v ∧ v < n) : nbP L P v < n := by
  have h1 := nb_nodup (v := v) (fun k hk => ⟨(hG k hk).1.2.1, (hG k hk).2⟩) (Nat.le_refl L.length)
  have h2 : ∀ u : Int, u ∈ (nb L v L.length).map (·.2) → (0 ≤ u ∧ u < n) ∧ u ≠ v := fun u hu => by
    obtain ⟨x, hx, rfl⟩ := List.mem_map.1 hu
    obtain ⟨k, h1, _, h2⟩ := nb_mem hx
    have := (hG k h1).1
    omega
  have h3 := range_len n (v :: (nb L v L.length).map (·.2)) (List.nodup_cons.2 ⟨fun c => (h2 v c).2 rfl, h1⟩) fun u hu => by
    rcases List.mem_cons.1 hu with rfl | hu
    · exact hv
    · exact (h2 u hu).1
  rw [List.length_cons, List.length_map] at h3
  have h4 : ∀ m, m ≤ L.length → sumTo (fun k => if ((ed L k).1 = v ∧ P (ed L k).2 = true) ∨ ((ed L k).2 = v ∧ P (ed L k).1 = true) then 1 else 0) m ≤ (nb L v m).length := by
    intro m
    induction m with
    | zero => intro _; exact Int.le_refl _
    | succ m ih =>
      intro hm
      have := ih (by omega)
      rw [sumTo, nb, List.length_append]
      by_cases c1 : (ed L m).1 = v
      · rw [if_pos c1]; simp only [List.length_cons, List.length_nil]; split <;> omega
      · rw [if_neg c1]
        by_cases c2 : (ed L m).2 = v
        · rw [if_pos c2]; simp only [List.length_cons, List.length_nil]; split <;> omega
        · rw [if_neg c2, if_neg (fun c => c.elim (fun c => c1 c.1) fun c => c2 c.1)]; simp only [List.length_nil]; omega
  have h5 := h4 _ (Nat.le_refl _)
  unfold nbP
  omega
theorem core_lt {L : List (Int × Int)} {n : Nat} (hG : ∀ k, k < L.length → (0 ≤ (ed L k).1 ∧ (ed L k).1 < (ed L k).2 ∧ (ed L k).2 < n) ∧ ∀ j, j < k → ed L j ≠ ed L k) {v : Nat} (hv : v < n) : (peC L n n).getD v 0 < n := by
  by_cases c : (n : Int) ≤ (peC L n n).getD v 0
  · obtain ⟨C, hC, hCv⟩ := (core_iff (fun k hk => (hG k hk).1) (by omega) hv).1 c
    have h1 := (hC _ hCv).2
    have h2 := nbP_lt (P := C) hG (v := v) (by omega)
    omega
  · omega
/-- The set that a list of bools tells. -/
def bset (R : List Bool) (u : Int) : Bool := decide (0 ≤ u) && R.getD u.toNat false
theorem bset_nat {R : List Bool} {u : Nat} : bset R u = R.getD u false := by simp [bset]
theorem bset_set {R : List Bool} {v : Nat} (hv : v < R.length) {b : Bool} {u : Int} : bset (R.set v b) u = if u = v then b else bset R u := by
  unfold bset
  by_cases h0 : 0 ≤ u
  · rw [List.getD_eq_getElem?_getD, List.getElem?_set]
    by_cases c : u = v
    · subst c; simp [hv]
    · rw [if_neg c, if_neg (by omega), List.getD_eq_getElem?_getD]
  · rw [if_neg (by omega)]; simp [h0]
theorem count_off : ∀ {R : List Bool} {i : Nat}, R.getD i false = true → (R.set i false).count true + 1 = R.count true
  | [], i, h => by simp at h
  | x :: R, 0, h => by simp at h; subst h; simp
  | x :: R, i + 1, h => by
    have := count_off (R := R) (i := i) (by simpa using h)
    rw [List.set_cons_succ, List.count_cons, List.count_cons]; omega
theorem getD_len {R : List Bool} {i : Nat} (h : R.getD i false = true) : i < R.length := by
  by_cases c : i < R.length
  · exact c
  · rw [List.getD_eq_getElem?_getD, List.getElem?_eq_none (by omega)] at h; cases h
/-- R holds every set in which each has at least k neighbors. -/
def Holds (L : List (Int × Int)) (n : Nat) (k : Int) (R : List Bool) : Prop := R.length = n ∧ ∀ C, KSet L n k C → ∀ v, C v = true → bset R v = true
theorem Holds.all {L : List (Int × Int)} {n : Nat} {k : Int} : Holds L n k (List.replicate n true) :=
  ⟨List.length_replicate, fun C hC v hv => by
    have := (hC v hv).1
    unfold bset
    rw [List.getD_eq_getElem?_getD, List.getElem?_replicate, if_pos (by omega)]
    simp [this.1]⟩
theorem Holds.off {L : List (Int × Int)} {n v : Nat} {k : Int} {R : List Bool} (h : Holds L n k R) (hv : v < n) (hk : nbP L (bset R) v < k) : Holds L n k (R.set v false) :=
  ⟨by rw [List.length_set]; exact h.1, fun C hC u hu => by
    rw [bset_set (by rw [h.1]; exact hv)]
    by_cases c : u = v
    · subst c
      have h1 := (hC _ hu).2
      have h2 := nbP_mono (L := L) (P := C) (Q := bset R) (v := v) (h.2 C hC)
      omega
    · rw [if_neg c]; exact h.2 C hC u hu⟩
theorem Holds.core {L : List (Int × Int)} {n : Nat} {k : Int} {R : List Bool} (hG : ∀ k, k < L.length → 0 ≤ (ed L k).1 ∧ (ed L k).1 < (ed L k).2 ∧ (ed L k).2 < n) (h : Holds L n k R) (hk : 0 < k) (hall : ∀ v : Nat, v < n → R.getD v false = true → k ≤ nbP L (bset R) v) {v : Nat} (hv : v < n) : R.getD v false = true ↔ k ≤ (peC L n n).getD v 0 := by
  rw [core_iff hG hk hv]
  constructor
  · intro e
    refine ⟨bset R, fun u hu => ?_, by rw [bset_nat]; exact e⟩
    unfold bset at hu
    simp only [Bool.and_eq_true, decide_eq_true_eq] at hu
    have h1 := getD_len hu.2
    rw [h.1] at h1
    have h2 := hall u.toNat h1 hu.2
    rw [Int.toNat_of_nonneg hu.1] at h2
    exact ⟨by omega, h2⟩
  · rintro ⟨C, hC, hCv⟩
    have := h.2 C hC v hCv
    rwa [bset_nat] at this
end Go.Proofs.Ytibegggcinonkaa
