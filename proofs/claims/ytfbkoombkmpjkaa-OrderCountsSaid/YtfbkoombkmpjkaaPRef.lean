/- Plain law: the reference's rows of inversions, number by number. No program in sight. -/
import Derived.Test.YtfbkoombkmpjkaaPPerm
import Derived.Test.YtfbkoombkmpjkaaPRow
namespace Go.Proofs.Ytfbkoombkmpjkaa
open PO RW
namespace RW
/-- What stands at place t of the next row, after i numbers of this one. -/
def gI (p m t i : Nat) : Int := sm (fun (a : Nat) => if a ≤ t ∧ t < a + m then fI p a else 0) i
theorem sm_ind {f : Int → Int} {m t : Nat} : ∀ {n : Nat}, sm (fun (a : Nat) => if a + m = t then f a else 0) n = if m ≤ t ∧ t < n + m then f ((t : Int) - m) else 0
  | 0 => by rw [if_neg (by omega)]; rfl
  | n + 1 => by
    simp only [sm]
    rw [sm_ind]
    by_cases c : n + m = t
    · rw [if_neg (by omega), if_pos c, if_pos (by omega), show (t : Int) - m = n by omega]; omega
    · rw [if_neg c]
      by_cases c2 : m ≤ t ∧ t < n + m
      · rw [if_pos c2, if_pos (by omega)]; omega
      · rw [if_neg c2, if_neg (by omega)]; omega
theorem gI_all {p t : Nat} : ∀ {m : Nat}, gI p m t (mst p + 1) = wsum (fI p) t m
  | 0 => by
    unfold gI
    rw [sm_congr (g := fun _ => 0) fun i _ => if_neg (by omega), sm_zero]; rfl
  | m + 1 => by
    simp only [wsum]
    rw [← gI_all]
    unfold gI
    rw [sm_congr (g := fun (a : Nat) => (if a ≤ t ∧ t < a + m then fI p a else 0) + if a + m = t then fI p a else 0) fun i _ => ?_, sm_add, sm_ind (f := fI p)]
    · congr 1
      by_cases c : m ≤ t ∧ t < mst p + 1 + m
      · rw [if_pos c]
      · rw [if_neg c, fI_zero]
        have := mst_eq (n := p)
        omega
    · by_cases c : i + m = t
      · rw [if_pos c, if_pos (by omega), if_neg (by omega)]; omega
      · rw [if_neg c]
        by_cases c2 : i ≤ t ∧ t < i + m
        · rw [if_pos c2, if_pos (by omega)]; omega
        · rw [if_neg c2, if_neg (by omega)]; omega
theorem gI_bnd {p m t : Nat} : ∀ {i : Nat}, 0 ≤ gI p m t i ∧ gI p m t i ≤ i * fac p
  | 0 => by simp [gI, sm]
  | i + 1 => by
    have h := gI_bnd (p := p) (m := m) (t := t) (i := i)
    have h2 := fI_nn (m := p) (k := (i : Int))
    show 0 ≤ gI p m t i + _ ∧ gI p m t i + _ ≤ _
    push_cast
    rw [Int.add_mul, Int.one_mul]
    split <;> omega
theorem gI_succ {p m t i : Nat} : gI p m t (i + 1) = gI p m t i + if i ≤ t ∧ t < i + m then fI p i else 0 := rfl
theorem fI01 {k : Int} : fI 1 k = fI 0 k := by simp only [fI, wsum]; simp
theorem fD01 {k : Int} : fD 1 k = fD 0 k := by simp only [fD]; simp
end RW
end Go.Proofs.Ytfbkoombkmpjkaa
