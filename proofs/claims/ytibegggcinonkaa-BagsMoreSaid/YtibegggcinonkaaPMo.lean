/- Plain law: what a further edge changes; two graphs side by side. -/
import Derived.Test.YtibegggcinonkaaPBt
namespace Go.Proofs.Ytibegggcinonkaa
open Gv
section
variable {n : Nat} {L : List (Int × Int)} {e : Int × Int} {S S' T : List Int} {C : Int → Bool} {p q k : Int}
theorem ed_init {k : Nat} (hk : k < L.length) : ed (L ++ [e]) k = ed L k := getD_snoc_lt hk
theorem ed_last : ed (L ++ [e]) L.length = e := getD_snoc_eq
theorem insM_snoc : insM (L ++ [e]) T = insM L T + if e.1 ∈ T ∧ e.2 ∈ T then 1 else 0 := by
  unfold insM
  rw [List.length_append, List.length_singleton, sumTo]
  congr 1
  · refine sumTo_congr fun k hk => ?_
    unfold bothIn
    rw [ed_init hk]
  · unfold bothIn
    rw [ed_last]
theorem nbP_more {v : Int} : nbP (L ++ [e]) C v = nbP L C v + if (e.1 = v ∧ C e.2 = true) ∨ (e.2 = v ∧ C e.1 = true) then 1 else 0 := by
  unfold nbP
  rw [List.length_append, List.length_singleton, sumTo]
  congr 1
  · refine sumTo_congr fun k hk => ?_
    rw [ed_init hk]
  · rw [ed_last]
theorem rat_more {a b c d : Nat} (hb : 0 < b) (hd : 0 < d) (h : a * d < (c + d) * b) : a / Nat.gcd a b * (d / Nat.gcd c d) < (c / Nat.gcd c d + d / Nat.gcd c d) * (b / Nat.gcd a b) := by
  have g1 : 0 < Nat.gcd a b := Nat.gcd_pos_of_pos_right a hb
  have g2 : 0 < Nat.gcd c d := Nat.gcd_pos_of_pos_right c hd
  obtain ⟨a', ha⟩ := Nat.gcd_dvd_left a b
  obtain ⟨b', hb'⟩ := Nat.gcd_dvd_right a b
  obtain ⟨c', hc⟩ := Nat.gcd_dvd_left c d
  obtain ⟨d', hd'⟩ := Nat.gcd_dvd_right c d
  rw [Nat.div_eq_of_eq_mul_right g1 ha, Nat.div_eq_of_eq_mul_right g1 hb', Nat.div_eq_of_eq_mul_right g2 hc, Nat.div_eq_of_eq_mul_right g2 hd']
  generalize Nat.gcd a b = g at *
  generalize Nat.gcd c d = f at *
  rw [ha, hd', hc, hb'] at h
  have h1 : (g * f) * (a' * d') < (g * f) * ((c' + d') * b') := by
    calc (g * f) * (a' * d') = g * a' * (f * d') := by ac_rfl
      _ < (f * c' + f * d') * (g * b') := h
      _ = (g * f) * ((c' + d') * b') := by rw [← Nat.mul_add]; ac_rfl
  exact Nat.lt_of_mul_lt_mul_left h1
/-- The density grows, and by less than 1. -/
theorem more_dens (hG : IsG n (L ++ [e])) (h : Dens n L S) (h' : Dens n (L ++ [e]) S') : dnum L S * dden (L ++ [e]) S' ≤ dnum (L ++ [e]) S' * dden L S ∧ dnum (L ++ [e]) S' * dden L S < (dnum L S + dden L S) * dden (L ++ [e]) S' := by
  have hp := h.pos
  have hp' := h'.pos
  have he := hG.ed L.length (by simp)
  rw [ed_last] at he
  constructor
  · refine rat_le hp hp' ?_
    have h1 := h'.best S h.asc.nodup h.rng
    have h2 := insM_snoc (L := L) (e := e) (T := S)
    have h3 : insM L S ≤ insM (L ++ [e]) S := by rw [h2]; split <;> omega
    have h4 : insM L S * S'.length ≤ insM (L ++ [e]) S' * S.length := Int.le_trans (Int.mul_le_mul_of_nonneg_right h3 (by omega)) h1
    rw [← insE_insM, ← insE_insM] at h4
    exact_mod_cast h4
  · refine rat_more hp' hp ?_
    have h1 := h.best S' h'.asc.nodup h'.rng
    have h2 := insM_snoc (L := L) (e := e) (T := S')
    have h5 := insM_nonneg (L := L) (S := S)
    have hlt : insM (L ++ [e]) S' * S.length < (insM L S + S.length) * S'.length := by
      rw [Int.add_mul]
      by_cases c : e.1 ∈ S' ∧ e.2 ∈ S'
      · rw [if_pos c] at h2
        have h6 : 2 ≤ S'.length := by
          have hnd := h'.asc.nodup
          match S', hp', c, hnd with
          | [a], _, c, _ =>
            have c1 := List.mem_singleton.1 c.1
            have c2 := List.mem_singleton.1 c.2
            omega
          | a :: b :: r, _, _, _ => simp
        have h7 : (S.length : Int) * 2 ≤ S.length * S'.length := Int.mul_le_mul_of_nonneg_left (by omega) (by omega)
        rw [h2, Int.add_mul, Int.one_mul]
        omega
      · rw [if_neg c, Int.add_zero] at h2
        have h7 : (0 : Int) < S.length * S'.length := Int.mul_pos (by omega) (by omega)
        rw [h2]
        omega
    rw [← insE_insM, ← insE_insM] at hlt
    exact_mod_cast hlt
theorem more_height (h : MinH n L p) (h' : MinH n (L ++ [e]) q) : p ≤ q ∧ q ≤ p + 1 := by
  have hp := h.nn
  have hq := h'.nn
  constructor
  · rcases h.low with e1 | ⟨T, hT, h0, hr, hlt⟩
    · omega
    · have h1 := h'.up T hT hr
      have h2 := insM_snoc (L := L) (e := e) (T := T)
      have h3 : insM L T ≤ insM (L ++ [e]) T := by rw [h2]; split <;> omega
      have h4 : (p - 1) * T.length < q * T.length := by omega
      have := Int.lt_of_mul_lt_mul_right h4 (by omega)
      omega
  · rcases h'.low with e1 | ⟨T, hT, h0, hr, hlt⟩
    · omega
    · have h1 := h.up T hT hr
      have h2 := insM_snoc (L := L) (e := e) (T := T)
      have h3 : insM (L ++ [e]) T ≤ insM L T + 1 := by rw [h2]; split <;> omega
      have h4 : (q - 1) * T.length < (p + 1) * T.length := by rw [Int.add_mul, Int.one_mul]; omega
      have := Int.lt_of_mul_lt_mul_right h4 (by omega)
      omega
theorem more_core (hE : EdOk n L) (hE' : EdOk n (L ++ [e])) {v : Nat} (hv : v < n) : (peC L n n).getD v 0 ≤ (peC (L ++ [e]) n n).getD v 0 ∧ (peC (L ++ [e]) n n).getD v 0 ≤ (peC L n n).getD v 0 + 1 := by
  have h0 := (peC_le (L := L) hv).1
  have h1 := (peC_le (L := L ++ [e]) hv).1
  constructor
  · by_cases c : (peC L n n).getD v 0 = 0
    · omega
    · obtain ⟨C, hC, hCv⟩ := (core_iff hE (k := (peC L n n).getD v 0) (by omega) hv).1 (Int.le_refl _)
      refine (core_iff hE' (by omega) hv).2 ⟨C, fun u hu => ⟨(hC u hu).1, ?_⟩, hCv⟩
      have := (hC u hu).2
      rw [nbP_more]; split <;> omega
  · by_cases c : (peC (L ++ [e]) n n).getD v 0 ≤ 1
    · omega
    · obtain ⟨C, hC, hCv⟩ := (core_iff hE' (k := (peC (L ++ [e]) n n).getD v 0) (by omega) hv).1 (Int.le_refl _)
      have := (core_iff hE (k := (peC (L ++ [e]) n n).getD v 0 - 1) (by omega) hv).2 ⟨C, fun u hu => ⟨(hC u hu).1, ?_⟩, hCv⟩
      · omega
      · have := (hC u hu).2
        rw [nbP_more] at this
        split at this <;> omega
end
end Go.Proofs.Ytibegggcinonkaa
