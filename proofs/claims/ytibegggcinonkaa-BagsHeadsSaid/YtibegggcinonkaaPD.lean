/- Plain law: the greatest densest set; fractions in lowest terms. -/
import Derived.Test.YtibegggcinonkaaPF
namespace Go.Proofs.Ytibegggcinonkaa
structure Dens (n : Int) (L : List (Int × Int)) (S : List Int) : Prop where
  asc : Asc S
  pos : 0 < S.length
  rng : ∀ v, v ∈ S → 0 ≤ v ∧ v < n
  best : ∀ T : List Int, T.Nodup → (∀ v, v ∈ T → 0 ≤ v ∧ v < n) → insM L T * S.length ≤ insM L S * T.length
  all : ∀ T : List Int, T.Nodup → (∀ v, v ∈ T → 0 ≤ v ∧ v < n) → insM L T * S.length = insM L S * T.length → ∀ v, v ∈ T → v ∈ S
/-- A share that proves a density. -/
structure ShOk (L Sh : List (Int × Int)) (num den : Int) : Prop where
  len : Sh.length = L.length
  pos : ∀ k, k < L.length → 0 ≤ (ed Sh k).1 ∧ 0 ≤ (ed Sh k).2
  sum : ∀ k, k < L.length → sm Sh k = den
  load : ∀ v : Nat, v < 16 → ldE L Sh v ≤ num
theorem insM_congr {L : List (Int × Int)} {S T : List Int} (h : ∀ v, v ∈ S ↔ v ∈ T) : insM L S = insM L T := by
  unfold insM
  refine sumTo_congr fun k _ => ?_
  have h1 := h (ed L k).1
  have h2 := h (ed L k).2
  by_cases c : bothIn L S k
  · rw [if_pos c, if_pos ⟨h1.1 c.1, h2.1 c.2⟩]
  · rw [if_neg c, if_neg fun c' => c ⟨h1.2 c'.1, h2.2 c'.2⟩]
/-- There is only one. -/
theorem Dens.uniq {n : Int} {L : List (Int × Int)} {S T : List Int} (h : Dens n L S) (h' : Dens n L T) : S = T := by
  have e1 := h.best T h'.asc.nodup h'.rng
  have e2 := h'.best S h.asc.nodup h.rng
  exact Asc.ext h.asc h'.asc fun v => ⟨h'.all S h.asc.nodup h.rng (by omega) v, h.all T h'.asc.nodup h'.rng (by omega) v⟩
theorem red_eq {a b c d : Nat} (hb : 0 < b) (hd : 0 < d) (h : a * d = c * b) : a / Nat.gcd a b = c / Nat.gcd c d ∧ b / Nat.gcd a b = d / Nat.gcd c d := by
  have g1 : 0 < Nat.gcd a b := Nat.gcd_pos_of_pos_right a hb
  have g2 : 0 < Nat.gcd c d := Nat.gcd_pos_of_pos_right c hd
  obtain ⟨a', ha⟩ := Nat.gcd_dvd_left a b
  obtain ⟨b', hb'⟩ := Nat.gcd_dvd_right a b
  obtain ⟨c', hc⟩ := Nat.gcd_dvd_left c d
  obtain ⟨d', hd'⟩ := Nat.gcd_dvd_right c d
  have q1 : a / Nat.gcd a b = a' := Nat.div_eq_of_eq_mul_right g1 ha
  have q2 : b / Nat.gcd a b = b' := Nat.div_eq_of_eq_mul_right g1 hb'
  have q3 : c / Nat.gcd c d = c' := Nat.div_eq_of_eq_mul_right g2 hc
  have q4 : d / Nat.gcd c d = d' := Nat.div_eq_of_eq_mul_right g2 hd'
  have p1 : Nat.Coprime a' b' := by have := Nat.coprime_div_gcd_div_gcd g1; rwa [q1, q2] at this
  have p2 : Nat.Coprime c' d' := by have := Nat.coprime_div_gcd_div_gcd g2; rwa [q3, q4] at this
  rw [q1, q2, q3, q4]
  generalize Nat.gcd a b = g at *
  generalize Nat.gcd c d = e at *
  have hx : a' * d' = c' * b' := by
    rw [ha, hd', hc, hb'] at h
    have : (g * e) * (a' * d') = (g * e) * (c' * b') := by
      calc (g * e) * (a' * d') = g * a' * (e * d') := by ac_rfl
        _ = e * c' * (g * b') := h
        _ = (g * e) * (c' * b') := by ac_rfl
    exact Nat.eq_of_mul_eq_mul_left (Nat.mul_pos g1 g2) this
  have d1 : a' ∣ c' := p1.dvd_of_dvd_mul_right (by rw [← hx]; exact Nat.dvd_mul_right _ _)
  have d2 : c' ∣ a' := p2.dvd_of_dvd_mul_right (by rw [hx]; exact Nat.dvd_mul_right _ _)
  have e1 : a' = c' := Nat.dvd_antisymm d1 d2
  have d3 : b' ∣ d' := p1.symm.dvd_of_dvd_mul_left (by rw [hx]; exact Nat.dvd_mul_left _ _)
  have d4 : d' ∣ b' := p2.symm.dvd_of_dvd_mul_left (by rw [← hx]; exact Nat.dvd_mul_left _ _)
  exact ⟨e1, Nat.dvd_antisymm d3 d4⟩
theorem red_pos {a b : Nat} (hb : 0 < b) : 0 < b / Nat.gcd a b := Nat.div_pos (Nat.le_of_dvd hb (Nat.gcd_dvd_right a b)) (Nat.gcd_pos_of_pos_right a hb)
theorem red_le {a b : Nat} : a / Nat.gcd a b ≤ a ∧ b / Nat.gcd a b ≤ b := ⟨Nat.div_le_self _ _, Nat.div_le_self _ _⟩
/-- Lowest terms: the same fraction. -/
theorem red_same {a b : Nat} : a / Nat.gcd a b * b = b / Nat.gcd a b * a := by
  obtain ⟨a', ha⟩ := Nat.gcd_dvd_left a b
  obtain ⟨b', hb'⟩ := Nat.gcd_dvd_right a b
  by_cases g0 : Nat.gcd a b = 0
  · rw [g0]; simp
  have g1 : 0 < Nat.gcd a b := by omega
  have q1 : a / Nat.gcd a b = a' := Nat.div_eq_of_eq_mul_right g1 ha
  have q2 : b / Nat.gcd a b = b' := Nat.div_eq_of_eq_mul_right g1 hb'
  rw [q1, q2]
  generalize Nat.gcd a b = g at *
  rw [hb', ha]; ac_rfl
/-- Fractions with small denominators that grow: their measure falls. -/
theorem frac_meas {a b c d : Nat} (hb : 0 < b ∧ b ≤ 16) (hd : 0 < d ∧ d ≤ 16) (h : a * d < b * c) : 256 * a / b < 256 * c / d := by
  rw [Nat.lt_div_iff_mul_lt hd.1]
  have h1 := Nat.div_mul_le_self (256 * a) b
  generalize 256 * a / b = q at *
  have h2 : q * b * d ≤ 256 * a * d := Nat.mul_le_mul_right d h1
  have h3 : b * d ≤ 16 * 16 := Nat.mul_le_mul hb.2 hd.2
  have h4 : 256 * (a * d + 1) ≤ 256 * (b * c) := Nat.mul_le_mul_left 256 h
  have e1 : q * b * d = b * (q * d) := by ac_rfl
  have e2 : 256 * a * d = 256 * (a * d) := by ac_rfl
  have e3 : 256 * (b * c) = b * (256 * c) := by ac_rfl
  have h5 : b * (q * d + (d - 1)) < b * (256 * c) := by
    rw [Nat.mul_add, Nat.mul_sub, Nat.mul_one]
    have : b ≤ b * d := Nat.le_mul_of_pos_right b hd.1
    omega
  have h6 := Nat.lt_of_mul_lt_mul_left h5
  omega
section
variable {L Sh : List (Int × Int)} {Ld : List Int} {num den n : Int} {F : List Int}
/-- All given, at a density that a set has: the greatest closed set is the greatest densest set. -/
theorem Dens.of_clo (hS : Shr L Sh Ld num den) (ha : ∀ k, k < L.length → sm Sh k = den) (hn : n ≤ 16) (hd : 0 < den) (hF : Asc F) (hc : Clo L Sh Ld num n F) (hg : ∀ T, Clo L Sh Ld num n T → ∀ v, v ∈ T → v ∈ F)
    {T0 : List Int} (h0 : T0.Nodup) (hr0 : ∀ v, v ∈ T0 → 0 ≤ v ∧ v < n) (hp0 : 0 < T0.length) (he0 : num * T0.length = den * insM L T0) : Dens n L F ∧ num * F.length = den * insM L F ∧ ShOk L Sh num den := by
  have hex := hc.exact hS ha hn hF.nodup
  have hT0 := hg T0 (hS.clo ha h0 hr0 hn he0.symm)
  have hFp : 0 < F.length := by
    match T0, hp0, hT0 with
    | v :: r, _, h => exact List.length_pos_of_mem (h v (by simp))
  have hbest : ∀ T : List Int, T.Nodup → (∀ v, v ∈ T → 0 ≤ v ∧ v < n) → den * insM L T ≤ num * T.length := fun T hT hr => hS.bound ha hT fun v hv => by have := hr v hv; omega
  -- den * insM F = num * |F|
  have key : ∀ T : List Int, den * (insM L T * F.length) = den * insM L T * F.length := fun T => by rw [Int.mul_assoc]
  have key2 : ∀ T : List Int, den * (insM L F * T.length) = num * T.length * F.length := fun T => by rw [← Int.mul_assoc, hex, Int.mul_assoc, Int.mul_assoc, Int.mul_comm (F.length : Int)]
  refine ⟨⟨hF, hFp, hc.rng, fun T hT hr => ?_, fun T hT hr he => ?_⟩, hex.symm, ⟨hS.len, hS.pos, ha, fun v hv => by rw [← hS.load v hv]; exact hS.le v hv⟩⟩
  · have h1 := Int.mul_le_mul_of_nonneg_right (hbest T hT hr) (show (0 : Int) ≤ F.length by omega)
    rw [← key, ← key2] at h1
    exact Int.le_of_mul_le_mul_left h1 hd
  · refine hg T (hS.clo ha hT hr hn ?_)
    have h1 : den * insM L T * F.length = num * T.length * F.length := by rw [← key, ← key2, he]
    exact Int.eq_of_mul_eq_mul_right (by omega) h1
end
/-- All vertices. -/
def allV : Nat → List Int
  | 0 => []
  | m + 1 => allV m ++ [(m : Int)]
theorem allV_len : ∀ m, (allV m).length = m
  | 0 => rfl
  | m + 1 => by rw [allV, List.length_append, allV_len m]; rfl
theorem allV_mem {v : Int} : ∀ {m : Nat}, v ∈ allV m ↔ 0 ≤ v ∧ v < m
  | 0 => by simp [allV]; try omega
  | m + 1 => by rw [allV, List.mem_append, allV_mem (m := m), List.mem_singleton]; omega
theorem allV_nodup : ∀ m, (allV m).Nodup
  | 0 => List.nodup_nil
  | m + 1 => by
    rw [allV, List.nodup_append]
    exact ⟨allV_nodup m, by simp, fun a ha b hb => by have := allV_mem.1 ha; simp at hb; omega⟩
theorem insM_all {L : List (Int × Int)} {m : Nat} (hG : ∀ k, k < L.length → 0 ≤ (ed L k).1 ∧ (ed L k).1 < (ed L k).2 ∧ (ed L k).2 < m) : insM L (allV m) = L.length := by
  unfold insM
  rw [sumTo_congr (g := fun _ => 1) fun k hk => ?_]
  · have h2 : ∀ n : Nat, sumTo (fun _ => 1) n = n := by
      intro n
      induction n with
      | zero => rfl
      | succ n ih => rw [sumTo, ih]; omega
    exact h2 _
  · have := hG k hk
    rw [if_pos ⟨allV_mem.2 (by omega), allV_mem.2 (by omega)⟩]
end Go.Proofs.Ytibegggcinonkaa
