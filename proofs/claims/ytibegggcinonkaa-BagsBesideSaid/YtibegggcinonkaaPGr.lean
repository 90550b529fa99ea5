/- Plain law: densities as fractions in lowest terms. -/
import Derived.Test.YtibegggcinonkaaPHd
import Derived.Test.YtibegggcinonkaaDN
namespace Go.Proofs.Ytibegggcinonkaa
open Gv
section
variable {n : Int} {L : List (Int × Int)} {S T : List Int}
theorem rat_le {a b c d : Nat} (hb : 0 < b) (hd : 0 < d) (h : a * d ≤ c * b) : a / Nat.gcd a b * (d / Nat.gcd c d) ≤ c / Nat.gcd c d * (b / Nat.gcd a b) := by
  have g1 : 0 < Nat.gcd a b := Nat.gcd_pos_of_pos_right a hb
  have g2 : 0 < Nat.gcd c d := Nat.gcd_pos_of_pos_right c hd
  obtain ⟨a', ha⟩ := Nat.gcd_dvd_left a b
  obtain ⟨b', hb'⟩ := Nat.gcd_dvd_right a b
  obtain ⟨c', hc⟩ := Nat.gcd_dvd_left c d
  obtain ⟨d', hd'⟩ := Nat.gcd_dvd_right c d
  rw [Nat.div_eq_of_eq_mul_right g1 ha, Nat.div_eq_of_eq_mul_right g1 hb', Nat.div_eq_of_eq_mul_right g2 hc, Nat.div_eq_of_eq_mul_right g2 hd']
  generalize Nat.gcd a b = g at *
  generalize Nat.gcd c d = e at *
  rw [ha, hd', hc, hb'] at h
  have h1 : (g * e) * (a' * d') ≤ (g * e) * (c' * b') := by
    calc (g * e) * (a' * d') = g * a' * (e * d') := by ac_rfl
      _ ≤ e * c' * (g * b') := h
      _ = (g * e) * (c' * b') := by ac_rfl
  exact Nat.le_of_mul_le_mul_left h1 (Nat.mul_pos g1 g2)
theorem rat_lt {a b c d : Nat} (hb : 0 < b) (hd : 0 < d) (h : a * d < c * b) : a / Nat.gcd a b * (d / Nat.gcd c d) < c / Nat.gcd c d * (b / Nat.gcd a b) := by
  have g1 : 0 < Nat.gcd a b := Nat.gcd_pos_of_pos_right a hb
  have g2 : 0 < Nat.gcd c d := Nat.gcd_pos_of_pos_right c hd
  obtain ⟨a', ha⟩ := Nat.gcd_dvd_left a b
  obtain ⟨b', hb'⟩ := Nat.gcd_dvd_right a b
  obtain ⟨c', hc⟩ := Nat.gcd_dvd_left c d
  obtain ⟨d', hd'⟩ := Nat.gcd_dvd_right c d
  rw [Nat.div_eq_of_eq_mul_right g1 ha, Nat.div_eq_of_eq_mul_right g1 hb', Nat.div_eq_of_eq_mul_right g2 hc, Nat.div_eq_of_eq_mul_right g2 hd']
  generalize Nat.gcd a b = g at *
  generalize Nat.gcd c d = e at *
  rw [ha, hd', hc, hb'] at h
  have h1 : (g * e) * (a' * d') < (g * e) * (c' * b') := by
    calc (g * e) * (a' * d') = g * a' * (e * d') := by ac_rfl
      _ < e * c' * (g * b') := h
      _ = (g * e) * (c' * b') := by ac_rfl
  exact Nat.lt_of_mul_lt_mul_left h1
theorem rat_inv {a b c d : Nat} (h1 : a / Nat.gcd a b = c / Nat.gcd c d) (h2 : b / Nat.gcd a b = d / Nat.gcd c d) : a * d = c * b := by
  have e1 := Nat.div_mul_cancel (Nat.gcd_dvd_left a b)
  have e2 := Nat.div_mul_cancel (Nat.gcd_dvd_right a b)
  have e3 := Nat.div_mul_cancel (Nat.gcd_dvd_left c d)
  have e4 := Nat.div_mul_cancel (Nat.gcd_dvd_right c d)
  rw [← h1] at e3
  rw [← h2] at e4
  generalize a / Nat.gcd a b = p at *
  generalize b / Nat.gcd a b = q at *
  generalize Nat.gcd a b = g at *
  generalize Nat.gcd c d = e at *
  subst e1 e2 e3 e4
  ac_rfl
theorem Dens.isS (h : Dens n L S) : IsS n S := isS_of h.asc h.pos h.rng
theorem dens_bnd (hG : IsG n L) (hS : IsS n S) : (1 ≤ dden L S ∧ dden L S ≤ 16) ∧ dnum L S ≤ 120 := by
  have h1 := hG.len
  have h2 := set_len hS.asc.nodup hS.rng hG.1.2
  have h3 := red_pos (a := insE L S L.length) hS.1
  have h4 := red_le (a := insE L S L.length) (b := S.length)
  have h5 := insE_le (L := L) (S := S) (k := L.length)
  unfold dden dnum
  omega
theorem Dens.le (h : Dens n L S) (hT : IsS n T) : dnum L T * dden L S ≤ dnum L S * dden L T := by
  refine rat_le hT.1 h.pos ?_
  have := h.best T hT.asc.nodup hT.rng
  rw [← insE_insM, ← insE_insM] at this
  exact_mod_cast this
theorem Dens.sub (h : Dens n L S) (hT : IsS n T) (h1 : dnum L T = dnum L S) (h2 : dden L T = dden L S) : ∀ v, v ∈ T → v ∈ S := by
  have := rat_inv h1 h2
  refine h.all T hT.asc.nodup hT.rng ?_
  rw [← insE_insM, ← insE_insM]
  exact_mod_cast this
end
end Go.Proofs.Ytibegggcinonkaa
