/- Plain law: layers, taken away one after the other, or added up. -/
import Derived.Test.YtdpckinhoooigaaY0
import Derived.Test.YtdpckinhoooigaaO2
namespace Go.Proofs.Ytdpckinhoooigaa
open Gv PM MM
/-- Layers as the reference has them. -/
def RefLay (T : List (List Int)) (L : List (Int × List Int)) : Prop :=
  L.length ≤ 100 ∧ (∀ i, i < L.length → 1 ≤ (L.getD i (0, [])).1 ∧ Cols T.length (L.getD i (0, [])).2 ∧
    ∀ r, r < T.length → (L.getD i (0, [])).1 ≤ ent T r ((L.getD i (0, [])).2.getD r 0).toNat - lsum L r ((L.getD i (0, [])).2.getD r 0) i) ∧ ∀ r, r < T.length → ∀ c, c < T.length → lsum L r c L.length = ent T r c
instance (T : List (List Int)) (L : List (Int × List Int)) : Decidable (RefLay T L) := by unfold RefLay; infer_instance
theorem lsum_mono {L : List (Int × List Int)} {r : Nat} {c : Int} (h : ∀ i, i < L.length → 1 ≤ (L.getD i (0, [])).1) : ∀ {k m : Nat}, k ≤ m → m ≤ L.length → lsum L r c k ≤ lsum L r c m
  | k, 0, hk, _ => by have : k = 0 := by omega
                      subst this; exact Int.le_refl _
  | k, m + 1, hk, hm => by
    by_cases e : k = m + 1
    · subst e; exact Int.le_refl _
    · have h1 := lsum_mono h (r := r) (c := c) (k := k) (m := m) (by omega) (by omega)
      have h2 := h m (by omega)
      simp only [lsum]
      split <;> omega
theorem refLay_iff {T : List (List Int)} (hT : IsTab T) {L : List (Int × List Int)} : RefLay T L ↔ SplitOk T L := by
  constructor
  · rintro ⟨h1, h2, h3⟩
    refine ⟨h1, fun i hi => ?_, h3⟩
    obtain ⟨a, b, c⟩ := h2 i hi
    have hW : ∀ r, r < T.length → (L.getD i (0, [])).1 ≤ ent T r ((L.getD i (0, [])).2.getD r 0).toNat := fun r hr => by
      have := c r hr
      obtain ⟨hc1, hc2, _⟩ := b.2 r (by rw [b.1]; exact hr)
      have h0 := lsum_mono (r := r) (c := (L.getD i (0, [])).2.getD r 0) (fun i hi => (h2 i hi).1) (Nat.zero_le i) (by omega)
      simp only [lsum] at h0
      omega
    refine ⟨?_, a, chB_iff.2 ⟨b, fun r hr => ?_⟩⟩
    · by_cases hn : T.length = 0
      · exact .inl hn
      · right
        have h0 : 0 < T.length := by omega
        obtain ⟨hc1, hc2, _⟩ := b.2 0 (by rw [b.1]; exact h0)
        have h4 := hW 0 h0
        have h5 : ent T 0 ((L.getD i (0, [])).2.getD 0 0).toNat ≤ rsum T 0 T.length := by
          unfold rsum
          have : ∀ n c, c < n → n ≤ T.length → ent T 0 c ≤ sumN n fun c => ent T 0 c := by
            intro n
            induction n with
            | zero => intro c hc; omega
            | succ n ih =>
              intro c hc hn
              simp only [sumN]
              have h6 : 0 ≤ sumN n fun c => ent T 0 c := sumN_nonneg fun c hc => (ent_ok hT h0 (by omega)).1
              have h7 := (ent_ok hT h0 (by omega : n < T.length)).1
              by_cases e : c = n
              · subst e; omega
              · have := ih c (by omega) (by omega); omega
          exact this _ _ (by omega) (Nat.le_refl _)
        unfold maxW
        split <;> omega
    · have := hW r (by rw [← b.1]; exact hr)
      omega
  · rintro ⟨h1, h2, h3⟩
    refine ⟨h1, fun i hi => ?_, h3⟩
    obtain ⟨a, b, c⟩ := h2 i hi
    have hc := chB_iff.1 c
    refine ⟨b, hc.1, fun r hr => ?_⟩
    obtain ⟨hc1, hc2, _⟩ := hc.1.2 r (by rw [hc.1.1]; exact hr)
    have h4 := lsum_mono (r := r) (c := (L.getD i (0, [])).2.getD r 0) (fun i hi => (h2 i hi).2.1) (k := i + 1) (m := L.length) (by omega) (Nat.le_refl _)
    have h5 := h3 r hr ((L.getD i (0, [])).2.getD r 0).toNat (by omega)
    rw [show (((L.getD i (0, [])).2.getD r 0).toNat : Int) = (L.getD i (0, [])).2.getD r 0 by omega] at h5
    simp only [lsum, if_true] at h4
    omega
end Go.Proofs.Ytdpckinhoooigaa
