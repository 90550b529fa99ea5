/- Plain law: cores, densities and heights beside each other; what a further edge changes. -/
import Derived.Test.YtibegggcinonkaaPGr
namespace Go.Proofs.Ytibegggcinonkaa
open Gv
section
variable {n : Nat} {L : List (Int × Int)} {S T : List Int} {C : Int → Bool} {r k : Int}
abbrev EdOk (n : Nat) (L : List (Int × Int)) : Prop := ∀ k, k < L.length → 0 ≤ (ed L k).1 ∧ (ed L k).1 < (ed L k).2 ∧ (ed L k).2 < (n : Int)
theorem sumL_ge {f : Int → Int} {c : Int} : ∀ {S : List Int}, (∀ v, v ∈ S → c ≤ f v) → c * S.length ≤ sumL f S
  | [], _ => by simp [sumL]
  | v :: r, h => by
    have h1 := sumL_ge (S := r) fun v hv => h v (List.mem_cons_of_mem _ hv)
    have h2 := h v (List.mem_cons_self ..)
    rw [sumL, List.length_cons, Int.natCast_add, Int.natCast_one, Int.mul_add, Int.mul_one]
    omega
def shC (L : List (Int × Int)) (C : Int → Bool) : List (Int × Int) := (List.range L.length).map fun k => (if C (ed L k).2 = true then 1 else 0, if C (ed L k).1 = true then 1 else 0)
theorem ed_shC {k : Nat} (hk : k < L.length) : ed (shC L C) k = (if C (ed L k).2 = true then 1 else 0, if C (ed L k).1 = true then 1 else 0) := by
  unfold ed shC
  rw [List.getD_eq_getElem?_getD, List.getElem?_map, List.getElem?_range hk]; rfl
theorem nbP_ld (hG : EdOk n L) {v : Int} : nbP L C v = ldE L (shC L C) v := by
  unfold nbP ldE
  refine sumTo_congr fun k hk => ?_
  have := hG k hk
  unfold cont
  rw [ed_shC hk]
  generalize (ed L k).1 = a at *
  generalize (ed L k).2 = b at *
  dsimp only
  by_cases c1 : a = v
  · have c2 : ¬ b = v := by omega
    simp [c1, c2]
  · by_cases c2 : b = v
    · simp [c1, c2]
    · simp [c1, c2]
/-- The vertices of a set that a test tells. -/
def setC (n : Nat) (C : Int → Bool) : List Int := (allV n).filter C
theorem setC_mem {v : Int} : v ∈ setC n C ↔ (0 ≤ v ∧ v < n) ∧ C v = true := by rw [setC, List.mem_filter, allV_mem]
theorem setC_nodup : (setC n C).Nodup := (allV_nodup n).filter _
theorem deg_sum (hG : EdOk n L) : sumL (nbP L C) (setC n C) = 2 * insM L (setC n C) := by
  have h1 : sumL (nbP L C) (setC n C) = sumL (ldE L (shC L C)) (setC n C) := by
    congr 1; funext v; exact nbP_ld hG
  rw [h1, load_sum setC_nodup, insM_mul]
  refine sumTo_congr fun k hk => ?_
  have hg := hG k hk
  unfold cS
  rw [ed_shC hk]
  have m1 : (ed L k).1 ∈ setC n C ↔ C (ed L k).1 = true := by rw [setC_mem]; exact ⟨fun h => h.2, fun h => ⟨by omega, h⟩⟩
  have m2 : (ed L k).2 ∈ setC n C ↔ C (ed L k).2 = true := by rw [setC_mem]; exact ⟨fun h => h.2, fun h => ⟨by omega, h⟩⟩
  unfold bothIn
  simp only [m1, m2]
  generalize (ed L k).1 = a at *
  generalize (ed L k).2 = b at *
  by_cases c1 : C a = true
  · by_cases c2 : C b = true
    · simp [c1, c2]
    · simp [c1, c2]
  · by_cases c2 : C b = true
    · simp [c1, c2]
    · simp [c1, c2]
/-- At least half the greatest core number. -/
theorem core_half (hG : EdOk n L) (hn : 0 < n) (hD : Dens n L S) : peM L n n * S.length ≤ 2 * insM L S := by
  have hk0 := peM_nonneg (L := L) (n := n) n
  by_cases c : peM L n n = 0
  · rw [c]; have := insM_nonneg (L := L) (S := S); omega
  obtain ⟨v, hv, hv1⟩ := peC_top (L := L) (n := n) hn
  obtain ⟨C, hC, hCv⟩ := (core_iff hG (k := peM L n n) (by omega) hv).1 (by omega)
  have h1 : peM L n n * (setC n C).length ≤ 2 * insM L (setC n C) := by
    rw [← deg_sum hG]
    exact sumL_ge fun u hu => (hC u (setC_mem.1 hu).2).2
  have hpos : 0 < (setC n C).length := List.length_pos_of_mem (setC_mem.2 ⟨by omega, hCv⟩)
  have h2 := hD.best (setC n C) setC_nodup fun u hu => (setC_mem.1 hu).1
  generalize peM L n n = k at *
  have h3 : k * (setC n C).length * S.length ≤ 2 * insM L (setC n C) * S.length := Int.mul_le_mul_of_nonneg_right h1 (by omega)
  have h4 : k * S.length * (setC n C).length ≤ 2 * insM L S * (setC n C).length := by
    have e1 : k * (setC n C).length * S.length = k * S.length * (setC n C).length := by rw [Int.mul_assoc, Int.mul_comm ((setC n C).length : Int), ← Int.mul_assoc]
    have e2 : 2 * insM L (setC n C) * S.length = 2 * (insM L (setC n C) * S.length) := Int.mul_assoc ..
    have e3 : 2 * insM L S * (setC n C).length = 2 * (insM L S * (setC n C).length) := Int.mul_assoc ..
    omega
  exact Int.le_of_mul_le_mul_right h4 (by omega)
/-- No set is denser than the greatest core number. -/
theorem core_up (hG : EdOk n L) : ∀ (m : Nat) (T : List Int), T.length = m → T.Nodup → (∀ v, v ∈ T → 0 ≤ v ∧ v < (n : Int)) → insM L T ≤ peM L n n * T.length
  | 0, T, hm, _, _ => by
    have : T = [] := List.eq_nil_of_length_eq_zero hm
    subst this
    have : insM L [] = 0 := by
      unfold insM
      exact (sumTo_congr (g := fun _ => 0) fun k _ => by simp [bothIn]).trans sumTo_zero
    rw [this]; simp
  | m + 1, T, hm, hT, hr => by
    obtain ⟨v, hv, hvk⟩ : ∃ v, v ∈ T ∧ nbP L (fun u => decide (u ∈ T)) v ≤ peM L n n := by
      refine Decidable.byContradiction fun hneg => ?_
      have hall : ∀ v, v ∈ T → peM L n n + 1 ≤ nbP L (fun u => decide (u ∈ T)) v := fun v hv => by
        refine Decidable.byContradiction fun c => hneg ⟨v, hv, by omega⟩
      obtain ⟨v, hv⟩ : ∃ v, v ∈ T := List.exists_mem_of_length_pos (by omega)
      have hvr := hr v hv
      have h0 := peM_nonneg (L := L) (n := n) n
      have h1 := (core_iff hG (k := peM L n n + 1) (by omega) (v := v.toNat) (by omega)).2 ⟨fun u => decide (u ∈ T), fun u hu => ⟨hr u (of_decide_eq_true hu), hall u (of_decide_eq_true hu)⟩, decide_eq_true (by rw [Int.toNat_of_nonneg hvr.1]; exact hv)⟩
      have h2 := (peC_le (L := L) (n := n) (v := v.toNat) (by omega)).2
      omega
    have hmem : ∀ x, x ∈ T.erase v ↔ x ≠ v ∧ x ∈ T := fun x => hT.mem_erase_iff
    have hlen : (T.erase v).length = m := by rw [List.length_erase_of_mem hv]; omega
    have ih := core_up hG m (T.erase v) hlen (hT.erase v) fun x hx => hr x ((hmem x).1 hx).2
    have hsum : insM L T ≤ insM L (T.erase v) + nbP L (fun u => decide (u ∈ T)) v := by
      unfold insM nbP
      rw [← sumTo_add]
      refine sumTo_le fun k hk => ?_
      have hg := hG k hk
      unfold bothIn
      simp only [hmem, decide_eq_true_eq]
      generalize (ed L k).1 = a at *
      generalize (ed L k).2 = b at *
      by_cases c1 : a ∈ T
      · by_cases c2 : b ∈ T
        · by_cases d1 : a = v
          · simp [d1, c2, hv]
          · by_cases d2 : b = v
            · simp [d1, d2, c1, hv]
            · simp [d1, d2, c1, c2]
        · simp [c2]; split <;> omega
      · simp [c1]; split <;> omega
    have hlT : (T.length : Int) = (T.erase v).length + 1 := by omega
    rw [hlT, Int.mul_add, Int.mul_one]
    omega
/-- The smallest height is the density, rounded up. -/
theorem MinH.ceil (h : MinH n L r) (hD : Dens n L S) : insM L S ≤ r * S.length ∧ (r = 0 ∨ (r - 1) * S.length < insM L S) := by
  refine ⟨h.up S hD.asc.nodup hD.rng, ?_⟩
  rcases h.low with e | ⟨T, hT, h0, hr, hlt⟩
  · exact .inl e
  · refine .inr ?_
    have h1 := hD.best T hT hr
    have h2 : (r - 1) * T.length * S.length < insM L T * S.length := Int.mul_lt_mul_of_pos_right hlt (by have := hD.pos; omega)
    have e : (r - 1) * T.length * S.length = (r - 1) * S.length * T.length := by rw [Int.mul_assoc, Int.mul_comm (T.length : Int), ← Int.mul_assoc]
    have h3 : (r - 1) * S.length * T.length < insM L S * T.length := by omega
    exact Int.lt_of_mul_lt_mul_right h3 (by omega)
/-- From a set to its density. -/
theorem dens_up (hp : 0 < S.length) (h : insM L S ≤ k * S.length) : (dnum L S : Int) ≤ k * dden L S := by
  have hr := red_same (a := insE L S L.length) (b := S.length)
  rw [← insE_insM] at h
  change dnum L S * S.length = dden L S * insE L S L.length at hr
  have hr' : (dnum L S : Int) * S.length = dden L S * (insE L S L.length : Nat) := by exact_mod_cast hr
  generalize dnum L S = a at *
  generalize dden L S = b at *
  have h1 : (b : Int) * (insE L S L.length : Nat) ≤ b * (k * S.length) := Int.mul_le_mul_of_nonneg_left h (by omega)
  have e : (b : Int) * (k * S.length) = k * b * S.length := by rw [← Int.mul_assoc, Int.mul_comm (b : Int) k]
  have h2 : (a : Int) * S.length ≤ k * b * S.length := by omega
  exact Int.le_of_mul_le_mul_right h2 (by omega)
theorem dens_low {c : Int} (hp : 0 < S.length) (_hc : 0 ≤ c) (h : k * S.length ≤ c * insM L S) : k * dden L S ≤ c * dnum L S := by
  have hr := red_same (a := insE L S L.length) (b := S.length)
  rw [← insE_insM] at h
  change dnum L S * S.length = dden L S * insE L S L.length at hr
  have hr' : (dnum L S : Int) * S.length = dden L S * (insE L S L.length : Nat) := by exact_mod_cast hr
  generalize dnum L S = a at *
  generalize dden L S = b at *
  have h1 : (b : Int) * (k * S.length) ≤ b * (c * (insE L S L.length : Nat)) := Int.mul_le_mul_of_nonneg_left h (by omega)
  have e : (b : Int) * (k * S.length) = k * b * S.length := by rw [← Int.mul_assoc, Int.mul_comm (b : Int) k]
  have e2 : (b : Int) * (c * (insE L S L.length : Nat)) = c * a * S.length := by
    rw [← Int.mul_assoc, Int.mul_comm (b : Int) c, Int.mul_assoc, ← hr', ← Int.mul_assoc]
  have h2 : k * b * S.length ≤ c * a * S.length := by omega
  exact Int.le_of_mul_le_mul_right h2 (by omega)
theorem dens_lt (hp : 0 < S.length) (hd : 0 < dden L S) (h : k * S.length < insM L S) : k * dden L S < dnum L S := by
  have hr := red_same (a := insE L S L.length) (b := S.length)
  rw [← insE_insM] at h
  change dnum L S * S.length = dden L S * insE L S L.length at hr
  have hr' : (dnum L S : Int) * S.length = dden L S * (insE L S L.length : Nat) := by exact_mod_cast hr
  generalize dnum L S = a at *
  generalize dden L S = b at *
  have h1 : (b : Int) * (k * S.length) < b * (insE L S L.length : Nat) := Int.mul_lt_mul_of_pos_left h (by omega)
  have e : (b : Int) * (k * S.length) = k * b * S.length := by rw [← Int.mul_assoc, Int.mul_comm (b : Int) k]
  have h2 : k * b * S.length < a * S.length := by omega
  exact Int.lt_of_mul_lt_mul_right h2 (by omega)
theorem ceil_eq {a b r : Int} (hb : 0 < b) (h1 : a ≤ r * b) (h2 : r = 0 ∨ (r - 1) * b < a) (ha : 0 ≤ a) (hr : 0 ≤ r) : (a + b - 1) / b = r := by
  have hlo : r * b ≤ a + b - 1 := by
    rcases h2 with e | e
    · subst e; omega
    · rw [Int.sub_mul, Int.one_mul] at e; omega
  have hhi : a + b - 1 < (r + 1) * b := by rw [Int.add_mul, Int.one_mul]; omega
  have h3 := (Int.le_ediv_iff_mul_le hb).2 hlo
  have h4 := Int.ediv_lt_of_lt_mul hb hhi
  omega
end
end Go.Proofs.Ytibegggcinonkaa
