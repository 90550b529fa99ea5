/- Plain law: degrees and cores; how many edges a set of vertices can have. No program in sight. -/
import Derived.Test.YtocgehoffdjijaaGreatBPG
import Derived.Test.YtocgehoffdjijaaGreatBV
namespace Go.Proofs.YtocgehoffdjijaaGreat
namespace Bg
open Gv
set_option maxRecDepth 20000
theorem nb_nodup {L : List (Int × Int)} {v : Int} (hG : ∀ k, k < L.length → (ed L k).1 < (ed L k).2 ∧ ∀ j, j < k → ed L j ≠ ed L k) : ∀ {m : Nat}, m ≤ L.length → ((nb L v m).map (·.2)).Nodup
  | 0, _ => by simp [nb]
  | m + 1, h => by
    have ih := nb_nodup (v := v) hG (m := m) (by omega)
    have hm := hG m (by omega)
    have hold : ∀ u, u ∈ (nb L v m).map (·.2) → ∃ k, k < m ∧ (((ed L k).1 = v ∧ u = (ed L k).2) ∨ ((ed L k).2 = v ∧ u = (ed L k).1)) := fun u hu => by
      obtain ⟨x, hx, rfl⟩ := List.mem_map.1 hu
      obtain ⟨k, h1, _, h2⟩ := nb_mem hx
      exact ⟨k, h1, h2⟩
    rw [nb, List.map_append, List.nodup_append]
    refine ⟨ih, ?_, ?_⟩
    · split
      · simp
      · split <;> simp
    · intro u hu u' hu' e
      subst e
      obtain ⟨k, hk, h1⟩ := hold u hu
      have h2 := hm.2 k hk
      have h3 := (hG k (by omega)).1
      have h4 := hm.1
      have hu'' : ((ed L m).1 = v ∧ u = (ed L m).2) ∨ ((ed L m).2 = v ∧ u = (ed L m).1) := by
        split at hu'
        · rename_i c
          simp at hu'; exact .inl ⟨c, hu'⟩
        · split at hu'
          · rename_i c
            simp at hu'; exact .inr ⟨c, hu'⟩
          · simp at hu'
      have hne : ¬ ((ed L k).1 = (ed L m).1 ∧ (ed L k).2 = (ed L m).2) := fun c => h2 (Prod.ext c.1 c.2)
      generalize ed L k = p at *
      generalize ed L m = q at *
      omega
section
variable {n : Nat} {L : List (Int × Int)} {S T : List Int} {C : Int → Bool} {r k : Int}
abbrev EdOk (n : Nat) (L : List (Int × Int)) : Prop := ∀ k, k < L.length → 0 ≤ (ed L k).1 ∧ (ed L k).1 < (ed L k).2 ∧ (ed L k).2 < (n : Int)
theorem sumL_ge {f : Int → Int} {c : Int} : ∀ {S : List Int}, (∀ v, v ∈ S → c ≤ f v) → c * S.length ≤ sumL f S
  | [], _ => by simp [sumL]
  | v :: r, h => by
    have h1 := sumL_ge (S := r) fun v hv => h v (List.mem_cons_of_mem _ hv)
    have h2 := h v (List.mem_cons_self ..)
    rw [sumL, List.length_cons, Int.natCast_add, Int.natCast_one, Int.mul_add, Int.mul_one]
    omega
def shC (L : List (Int × Int)) (C : Int → Bool) : List (Int × Int) := (List.range L.length).map fun k => (if C (ed L k).2 = true then 1 else 0, if C (ed L k).1 = true then 1 else 0)
theorem ed_shC {k : Nat} (hk : k < L.length) : ed (shC L C) k = (if C (ed L k).2 = true then 1 else 0, if C (ed L k).1 = true then 1 else 0) := by
  unfold ed shC
  rw [List.getD_eq_getElem?_getD, List.getElem?_map, List.getElem?_range hk]; rfl
theorem nbP_ld (hG : EdOk n L) {v : Int} : nbP L C v = ldE L (shC L C) v := by
  unfold nbP ldE
  refine sumTo_congr fun k hk => ?_
  have := hG k hk
  unfold cont
  rw [ed_shC hk]
  generalize (ed L k).1 = a at *
  generalize (ed L k).2 = b at *
  dsimp only
  by_cases c1 : a = v
  · have c2 : ¬ b = v := by omega
    simp [c1, c2]
  · by_cases c2 : b = v
    · simp [c1, c2]
    · simp [c1, c2]
/-- The vertices of a set that a test tells. -/
def setC (n : Nat) (C : Int → Bool) : List Int := (allV n).filter C
theorem setC_mem {v : Int} : v ∈ setC n C ↔ (0 ≤ v ∧ v < n) ∧ C v = true := by rw [setC, List.mem_filter, allV_mem]
theorem setC_nodup : (setC n C).Nodup := (allV_nodup n).filter _
theorem deg_sum (hG : EdOk n L) : sumL (nbP L C) (setC n C) = 2 * insM L (setC n C) := by
  have h1 : sumL (nbP L C) (setC n C) = sumL (ldE L (shC L C)) (setC n C) := by
    congr 1; funext v; exact nbP_ld hG
  rw [h1, load_sum setC_nodup, insM_mul]
  refine sumTo_congr fun k hk => ?_
  have hg := hG k hk
  unfold cS
  rw [ed_shC hk]
  have m1 : (ed L k).1 ∈ setC n C ↔ C (ed L k).1 = true := by rw [setC_mem]; exact ⟨fun h => h.2, fun h => ⟨by omega, h⟩⟩
  have m2 : (ed L k).2 ∈ setC n C ↔ C (ed L k).2 = true := by rw [setC_mem]; exact ⟨fun h => h.2, fun h => ⟨by omega, h⟩⟩
  unfold bothIn
  simp only [m1, m2]
  generalize (ed L k).1 = a at *
  generalize (ed L k).2 = b at *
  by_cases c1 : C a = true
  · by_cases c2 : C b = true
    · simp [c1, c2]
    · simp [c1, c2]
  · by_cases c2 : C b = true
    · simp [c1, c2]
    · simp [c1, c2]
/-- At least half the greatest core number. -/
theorem core_half (hG : EdOk n L) (hn : 0 < n) (hD : Dens n L S) : peM L n n * S.length ≤ 2 * insM L S := by
  have hk0 := peM_nonneg (L := L) (n := n) n
  by_cases c : peM L n n = 0
  · rw [c]; have := insM_nonneg (L := L) (S := S); omega
  obtain ⟨v, hv, hv1⟩ := peC_top (L := L) (n := n) hn
  obtain ⟨C, hC, hCv⟩ := (core_iff hG (k := peM L n n) (by omega) hv).1 (by omega)
  have h1 : peM L n n * (setC n C).length ≤ 2 * insM L (setC n C) := by
    rw [← deg_sum hG]
    exact sumL_ge fun u hu => (hC u (setC_mem.1 hu).2).2
  have hpos : 0 < (setC n C).length := List.length_pos_of_mem (setC_mem.2 ⟨by omega, hCv⟩)
  have h2 := hD.best (setC n C) setC_nodup fun u hu => (setC_mem.1 hu).1
  generalize peM L n n = k at *
  have h3 : k * (setC n C).length * S.length ≤ 2 * insM L (setC n C) * S.length := Int.mul_le_mul_of_nonneg_right h1 (by omega)
  have h4 : k * S.length * (setC n C).length ≤ 2 * insM L S * (setC n C).length := by
    have e1 : k * (setC n C).length * S.length = k * S.length * (setC n C).length := by rw [Int.mul_assoc, Int.mul_comm ((setC n C).length : Int), ← Int.mul_assoc]
    have e2 : 2 * insM L (setC n C) * S.length = 2 * (insM L (setC n C) * S.length) := Int.mul_assoc ..
    have e3 : 2 * insM L S * (setC n C).length = 2 * (insM L S * (setC n C).length) := Int.mul_assoc ..
    omega
  exact Int.le_of_mul_le_mul_right h4 (by omega)
theorem sub_len {F : List Int} : ∀ {S : List Int}, F.Nodup → (∀ x, x ∈ F → x ∈ S) → F.length ≤ S.length := by
  induction F with
  | nil => intro S _ _; simp
  | cons x F ih =>
    intro S hn hs
    have hc := List.nodup_cons.1 hn
    have hx := hs x (by simp)
    have := ih (S := S.erase x) hc.2 fun y hy => (List.mem_erase_of_ne (by rintro rfl; exact hc.1 hy)).2 (hs y (by simp [hy]))
    rw [List.length_erase_of_mem hx] at this
    have h0 : 0 < S.length := List.length_pos_of_mem hx
    simp only [List.length_cons]; omega
theorem filt1 {x : Int} (h : x ∈ S) : ([x].filter fun u => decide (u ∈ S)).length = 1 := by simp [h]
theorem filt0 {x : Int} (h : x ∉ S) : ([x].filter fun u => decide (u ∈ S)).length = 0 := by simp [h]
/-- In a graph without double edges a vertex of a set has fewer neighbors in it than it has vertices. -/
theorem nbP_in (hG : ∀ k, k < L.length → (0 ≤ (ed L k).1 ∧ (ed L k).1 < (ed L k).2 ∧ (ed L k).2 < (n : Int)) ∧ ∀ j, j < k → ed L j ≠ ed L k) {v : Int} (hv : v ∈ S) : nbP L (fun u => decide (u ∈ S)) v + 1 ≤ S.length := by
  have h1 := nb_nodup (v := v) (fun k hk => ⟨(hG k hk).1.2.1, (hG k hk).2⟩) (Nat.le_refl L.length)
  have h2 : ∀ u : Int, u ∈ (nb L v L.length).map (·.2) → u ≠ v := fun u hu => by
    obtain ⟨x, hx, rfl⟩ := List.mem_map.1 hu
    obtain ⟨k, h1, _, h2⟩ := nb_mem hx
    have := (hG k h1).1
    omega
  have h3 := sub_len (F := v :: ((nb L v L.length).map (fun x : Int × Int => x.2)).filter fun u => decide (u ∈ S)) (S := S) (List.nodup_cons.2 ⟨fun c => h2 v (List.mem_filter.1 c).1 rfl, List.Pairwise.filter _ h1⟩) fun u hu => by
    rcases List.mem_cons.1 hu with rfl | hu
    · exact hv
    · exact of_decide_eq_true (List.mem_filter.1 hu).2
  have h4 : ∀ m, m ≤ L.length → sumTo (fun k => if ((ed L k).1 = v ∧ decide ((ed L k).2 ∈ S) = true) ∨ ((ed L k).2 = v ∧ decide ((ed L k).1 ∈ S) = true) then 1 else 0) m ≤ (((nb L v m).map (·.2)).filter fun u => decide (u ∈ S)).length := by
    intro m
    induction m with
    | zero => intro _; exact Int.le_refl _
    | succ m ih =>
      intro hm
      have := ih (by omega)
      rw [sumTo, nb, List.map_append, List.filter_append, List.length_append]
      by_cases c1 : (ed L m).1 = v
      · rw [if_pos c1]
        have hne := (hG m (by omega)).1
        by_cases c3 : (ed L m).2 ∈ S
        · have e1 : (List.filter (fun u => decide (u ∈ S)) (List.map (fun x => x.2) [((m : Int), (ed L m).2)])).length = 1 := filt1 c3
          rw [if_pos (.inl ⟨c1, decide_eq_true c3⟩), e1]; omega
        · have e1 : (List.filter (fun u => decide (u ∈ S)) (List.map (fun x => x.2) [((m : Int), (ed L m).2)])).length = 0 := filt0 c3
          rw [if_neg (fun c => c.elim (fun c => c3 (of_decide_eq_true c.2)) fun c => by omega), e1]; omega
      · rw [if_neg c1]
        by_cases c2 : (ed L m).2 = v
        · rw [if_pos c2]
          by_cases c3 : (ed L m).1 ∈ S
          · have e1 : (List.filter (fun u => decide (u ∈ S)) (List.map (fun x => x.2) [((m : Int), (ed L m).1)])).length = 1 := filt1 c3
            rw [if_pos (.inr ⟨c2, decide_eq_true c3⟩), e1]; omega
          · have e1 : (List.filter (fun u => decide (u ∈ S)) (List.map (fun x => x.2) [((m : Int), (ed L m).1)])).length = 0 := filt0 c3
            rw [if_neg (fun c => c.elim (fun c => c1 c.1) fun c => c3 (of_decide_eq_true c.2)), e1]; omega
        · have e1 : (List.filter (fun u => decide (u ∈ S)) (List.map (fun x : Int × Int => x.2) [])).length = 0 := rfl
          rw [if_neg c2, if_neg (fun c => c.elim (fun c => c1 c.1) fun c => c2 c.1), e1]; omega
  have h5 := h4 _ (Nat.le_refl _)
  have h6 : nbP L (fun u => decide (u ∈ S)) v ≤ _ := h5
  simp only [List.length_cons] at h3
  omega
theorem insM_pairs (hG : ∀ k, k < L.length → (0 ≤ (ed L k).1 ∧ (ed L k).1 < (ed L k).2 ∧ (ed L k).2 < (n : Int)) ∧ ∀ j, j < k → ed L j ≠ ed L k) (hS : S.Nodup) (hr : ∀ v, v ∈ S → 0 ≤ v ∧ v < (n : Int)) : 2 * insM L S ≤ ((S.length : Int) - 1) * S.length := by
  have hE : EdOk n L := fun k hk => (hG k hk).1
  have h1 := deg_sum (C := fun u => decide (u ∈ S)) hE
  have hm : ∀ v, v ∈ setC n (fun u => decide (u ∈ S)) ↔ v ∈ S := fun v => by
    rw [setC_mem]
    exact ⟨fun h => of_decide_eq_true h.2, fun h => ⟨hr v h, decide_eq_true h⟩⟩
  have hl : (setC n (fun u => decide (u ∈ S))).length = S.length :=
    Nat.le_antisymm (sub_len setC_nodup fun x hx => (hm x).1 hx) (sub_len hS fun x hx => (hm x).2 hx)
  rw [insM_congr hm] at h1
  rw [← h1, ← hl]
  exact sumL_le fun v hv => by have := nbP_in hG (S := S) ((hm v).1 hv); rw [hl]; omega
end
end Bg
end Go.Proofs.YtocgehoffdjijaaGreat
