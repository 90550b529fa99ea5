/- Plain law: which vertices are free; after as many rounds as vertices nothing changes. -/
import Derived.Test.YtibegggcinonkaaPT
namespace Go.Proofs.Ytibegggcinonkaa
def Fix (L Sh : List (Int × Int)) (n : Int) (fr : Int → Bool) : Prop := ∀ v, 0 ≤ v → v < n → ∀ x, x ∈ nb L v L.length → 0 < hs L Sh x.1.toNat v → fr x.2 = true → fr v = true
structure Rnd (L Sh : List (Int × Int)) (Ld : List Int) (most n : Int) (fr0 fr : Int → Bool) : Prop where
  a : ∀ T, Clo L Sh Ld most n T → ∀ v, v ∈ T → fr v = false
  rng : ∀ v, fr v = true → 0 ≤ v ∧ v < n
  base : ∀ v, 0 ≤ v → v < n → Ld.getD v.toNat 0 < most → fr v = true
  mono : ∀ v, fr0 v = true → fr v = true
  fixd : Fix L Sh n fr0 → ∀ v, fr v = fr0 v
def upF (fr : Int → Bool) (v : Int) (y : Bool) : Int → Bool := fun x => if x = v then y else fr x
def cF (fr : Int → Bool) : Nat → Nat
  | 0 => 0
  | m + 1 => cF fr m + if fr m then 1 else 0
theorem cF_mono {f g : Int → Bool} (h : ∀ v, f v = true → g v = true) : ∀ m, cF f m ≤ cF g m
  | 0 => Nat.le_refl _
  | m + 1 => by
    have := cF_mono h m
    have := h m
    simp only [cF]
    cases hf : f m <;> cases hg : g m <;> simp_all <;> omega
theorem cF_lt {f g : Int → Bool} (h : ∀ v, f v = true → g v = true) {v : Nat} (h1 : f v = false) (h2 : g v = true) : ∀ {m : Nat}, v < m → cF f m < cF g m
  | 0, hv => by omega
  | m + 1, hv => by
    simp only [cF]
    by_cases c : v = m
    · subst c
      have := cF_mono h v
      simp [h1, h2]; omega
    · have := cF_lt h h1 h2 (m := m) (by omega)
      have := h m
      cases hf : f m <;> cases hg : g m <;> simp_all <;> omega
theorem cF_full {f : Int → Bool} : ∀ {m : Nat}, m ≤ cF f m → ∀ v : Nat, v < m → f v = true
  | 0, _, v, hv => by omega
  | m + 1, h, v, hv => by
    have hle : ∀ k, cF f k ≤ k := fun k => by
      induction k with
      | zero => exact Nat.le_refl _
      | succ k ih => simp only [cF]; split <;> omega
    have h1 := hle m
    simp only [cF] at h
    by_cases c : v = m
    · subst c
      cases hf : f v
      · simp [hf] at h; omega
      · rfl
    · refine cF_full (m := m) ?_ v (by omega)
      split at h <;> omega
section
variable {L Sh : List (Int × Int)} {Ld : List Int} {most whole n : Int} {fr0 fr : Int → Bool}
/-- Before the first round: free is whoever has less than it can. -/
theorem Rnd.start (h : ∀ v, fr v = true ↔ 0 ≤ v ∧ v < n ∧ Ld.getD v.toNat 0 < most) : Rnd L Sh Ld most n fr fr := by
  refine ⟨fun T hT v hv => ?_, fun v hv => ?_, fun v h0 h1 h2 => (h v).2 ⟨h0, h1, h2⟩, fun v hv => hv, fun _ _ => rfl⟩
  · cases hf : fr v
    · rfl
    · have := ((h v).1 hf).2.2
      have := hT.full v hv; omega
  · have := (h v).1 hv; exact ⟨this.1, this.2.1⟩
theorem Rnd.step (h : Rnd L Sh Ld most n fr0 fr) {v : Int} (hv : 0 ≤ v ∧ v < n) {x : Int × Int} (hx : x ∈ nb L v L.length) : Rnd L Sh Ld most n fr0 (upF fr v (fr v || (fr x.2 && decide (0 < hs L Sh x.1.toNat v)))) := by
  have hmono : ∀ u, fr u = true → upF fr v (fr v || (fr x.2 && decide (0 < hs L Sh x.1.toNat v))) u = true := fun u hu => by
    unfold upF; split
    · rename_i e; subst e; rw [hu]; rfl
    · exact hu
  refine ⟨fun T hT u hu => ?_, fun u hu => ?_, fun u h0 h1 h2 => hmono u (h.base u h0 h1 h2), fun u hu => hmono u (h.mono u hu), fun hf u => ?_⟩
  · unfold upF
    split
    · rename_i e
      subst e
      rw [h.a T hT u hu, Bool.false_or]
      by_cases hp : 0 < hs L Sh x.1.toNat u
      · obtain ⟨k, hk, e1, e2⟩ := nb_mem hx
        rw [e1] at hp
        simp only [Int.toNat_natCast] at hp
        have hm : x.2 ∈ T := by
          unfold hs at hp
          rcases e2 with ⟨e2, e3⟩ | ⟨e2, e3⟩
          · rw [if_pos e2] at hp
            rw [e3]; exact hT.one k hk (by rw [e2]; exact hu) hp
          · by_cases c : (ed L k).1 = u
            · rw [e3, c]; exact hu
            · rw [if_neg c] at hp
              rw [e3]; exact hT.two k hk (by rw [e2]; exact hu) hp
        rw [h.a T hT _ hm]; rfl
      · rw [decide_eq_false hp, Bool.and_false]
    · exact h.a T hT u hu
  · unfold upF at hu
    split at hu
    · rename_i e; subst e; exact hv
    · exact h.rng u hu
  · unfold upF
    split
    · rename_i e
      subst e
      rw [h.fixd hf u, h.fixd hf x.2]
      by_cases hp : 0 < hs L Sh x.1.toNat u
      · rw [decide_eq_true hp, Bool.and_true]
        cases h1 : fr0 x.2
        · rw [Bool.or_false]
        · rw [hf u hv.1 hv.2 x hx hp h1]; rfl
      · rw [decide_eq_false hp, Bool.and_false, Bool.or_false]
    · exact h.fixd hf u
/-- A round is over. -/
theorem Rnd.done (h : Rnd L Sh Ld most n fr0 fr) {r : Nat} (hr : Fix L Sh n fr0 ∨ r ≤ cF fr0 n.toNat) (hp : ∀ v, 0 ≤ v → v < n → ∀ x, x ∈ nb L v L.length → 0 < hs L Sh x.1.toNat v → fr0 x.2 = true → fr v = true) :
    (Fix L Sh n fr ∨ r + 1 ≤ cF fr n.toNat) ∧ Rnd L Sh Ld most n fr fr := by
  refine ⟨?_, h.a, h.rng, h.base, fun _ h => h, fun _ _ => rfl⟩
  by_cases hf : Fix L Sh n fr0
  · left
    have he : fr = fr0 := funext (h.fixd hf)
    rw [he]; exact hf
  · have hr := hr.resolve_left hf
    by_cases hc : ∃ v, fr v = true ∧ fr0 v = false
    · right
      obtain ⟨v, h1, h2⟩ := hc
      have hv := h.rng v h1
      have := cF_lt (f := fr0) (g := fr) h.mono (v := v.toNat) (by rw [Int.toNat_of_nonneg hv.1]; exact h2) (by rw [Int.toNat_of_nonneg hv.1]; exact h1) (m := n.toNat) (by omega)
      omega
    · left
      have he : fr = fr0 := funext fun v => by
        cases h1 : fr v <;> cases h2 : fr0 v
        · rfl
        · have := h.mono v h2; rw [h1] at this; cases this
        · exact absurd ⟨v, h1, h2⟩ hc
        · rfl
      intro v h0 h1 x hx hp' hu
      exact hp v h0 h1 x hx hp' (by rw [← he]; exact hu)
/-- After all rounds. -/
theorem fix_end (hr : Fix L Sh n fr ∨ n.toNat ≤ cF fr n.toNat) : Fix L Sh n fr := by
  rcases hr with hr | hr
  · exact hr
  · intro v h0 h1 _ _ _ _
    have := cF_full hr v.toNat (by omega)
    rwa [Int.toNat_of_nonneg h0] at this
/-- The vertices that are not free: the greatest closed set. -/
theorem Rnd.clo (h : Rnd L Sh Ld most n fr fr) (hx : Fix L Sh n fr) (hS : Shr L Sh Ld most whole) (hn : n ≤ 16) (hG : ∀ k, k < L.length → 0 ≤ (ed L k).1 ∧ (ed L k).1 < (ed L k).2 ∧ (ed L k).2 < n) {F : List Int} (hF : ∀ v, v ∈ F ↔ 0 ≤ v ∧ v < n ∧ fr v = false) :
    Clo L Sh Ld most n F ∧ ∀ T, Clo L Sh Ld most n T → ∀ v, v ∈ T → v ∈ F := by
  refine ⟨⟨fun v hv => ?_, fun v hv => ?_, fun k hk h1 h2 => ?_, fun k hk h1 h2 => ?_⟩, fun T hT v hv => ?_⟩
  · have := (hF v).1 hv; exact ⟨this.1, this.2.1⟩
  · have h1 := (hF v).1 hv
    have h2 := (hS.loadI (v := v) (by omega)).2
    have h3 : ¬ Ld.getD v.toNat 0 < most := fun c => by have := h.base v h1.1 h1.2.1 c; rw [h1.2.2] at this; cases this
    omega
  · have hg := hG k hk
    have hv := (hF _).1 h1
    refine (hF _).2 ⟨by omega, by omega, ?_⟩
    cases hf : fr (ed L k).2
    · rfl
    · have := hx _ hv.1 hv.2.1 _ ((nb_of hk).1 rfl) (by simp only [Int.toNat_natCast]; unfold hs; rw [if_pos rfl]; exact h2) hf
      rw [hv.2.2] at this; cases this
  · have hg := hG k hk
    have hv := (hF _).1 h1
    refine (hF _).2 ⟨by omega, by omega, ?_⟩
    cases hf : fr (ed L k).1
    · rfl
    · have := hx _ hv.1 hv.2.1 _ ((nb_of hk).2 (by omega) rfl) (by simp only [Int.toNat_natCast]; unfold hs; rw [if_neg (by omega)]; exact h2) hf
      rw [hv.2.2] at this; cases this
  · have := hT.rng v hv
    exact (hF v).2 ⟨this.1, this.2, h.a T hT v hv⟩
end
end Go.Proofs.Ytibegggcinonkaa
