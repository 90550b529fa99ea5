/- Plain law: the heads of a share in which each edge is given to one end. -/
import Derived.Test.YtocgehoffdjijaaGreatBW
import Derived.Test.YtocgehoffdjijaaGreatBPG
namespace Go.Proofs.YtocgehoffdjijaaGreat
namespace Bg
set_option maxRecDepth 20000
def hdF (L Sh : List (Int × Int)) : Nat → List Int
  | 0 => []
  | m + 1 => hdF L Sh m ++ [(ed L m).1 * (ed Sh m).1 + (ed L m).2 * (ed Sh m).2]
theorem hdF_len {L Sh : List (Int × Int)} : ∀ m, (hdF L Sh m).length = m
  | 0 => rfl
  | m + 1 => by rw [hdF, List.length_append, hdF_len m]; rfl
theorem hdF_get {L Sh : List (Int × Int)} {k : Nat} : ∀ {m : Nat}, k < m → (hdF L Sh m).getD k 0 = (ed L k).1 * (ed Sh k).1 + (ed L k).2 * (ed Sh k).2
  | 0, h => by omega
  | m + 1, h => by
    have hl := hdF_len (L := L) (Sh := Sh) m
    rw [hdF]
    by_cases e : k = m
    · subst e
      have h2 := getD_snoc_eq (Q := hdF L Sh k) (x := (ed L k).1 * (ed Sh k).1 + (ed L k).2 * (ed Sh k).2) (d := 0)
      rwa [hl] at h2
    · rw [getD_snoc_lt (by omega)]; exact hdF_get (by omega)
/-- A share of which each part is all or nothing. -/
def One (L Sh : List (Int × Int)) : Prop := ∀ k, k < L.length → (0 ≤ (ed Sh k).1 ∧ 0 ≤ (ed Sh k).2) ∧ sm Sh k = 1
theorem One.at {L Sh : List (Int × Int)} (h : One L Sh) {k : Nat} (hk : k < L.length) : (ed Sh k = (0, 1) ∧ (ed L k).1 * (ed Sh k).1 + (ed L k).2 * (ed Sh k).2 = (ed L k).2) ∨ (ed Sh k = (1, 0) ∧ (ed L k).1 * (ed Sh k).1 + (ed L k).2 * (ed Sh k).2 = (ed L k).1) := by
  obtain ⟨h1, h2⟩ := h k hk
  unfold sm at h2
  rcases hx : ed Sh k with ⟨a, b⟩
  rw [hx] at h1 h2
  dsimp only at h1 h2 ⊢
  have : (a = 0 ∧ b = 1) ∨ (a = 1 ∧ b = 0) := by omega
  rcases this with ⟨rfl, rfl⟩ | ⟨rfl, rfl⟩
  · left; simp
  · right; simp
theorem One.ok {L Sh : List (Int × Int)} (h : One L Sh) : OkH L (hdF L Sh L.length) :=
  ⟨hdF_len _, fun k hk => by
    rw [hdF_get hk]
    rcases h.at hk with ⟨_, e⟩ | ⟨_, e⟩
    · exact .inr e
    · exact .inl e⟩
theorem One.cnt {L Sh : List (Int × Int)} (h : One L Sh) (hd : ∀ k, k < L.length → (ed L k).1 ≠ (ed L k).2) {u : Int} : ∀ {m : Nat}, m ≤ L.length → cntH u (hdF L Sh m) = sumTo (fun k => cont (ed L k) (ed Sh k) u) m
  | 0, _ => rfl
  | m + 1, hm => by
    have ih := h.cnt hd (u := u) (m := m) (by omega)
    have hne := hd m (by omega)
    rw [hdF, cntH_append, ih, sumTo]
    congr 1
    simp only [cntH]
    unfold cont
    rcases h.at (k := m) (by omega) with ⟨e1, e2⟩ | ⟨e1, e2⟩
    · rw [e2, e1]; simp
    · rw [e2, e1]; simp
theorem One.load {L Sh : List (Int × Int)} (h : One L Sh) (hd : ∀ k, k < L.length → (ed L k).1 ≠ (ed L k).2) {u : Int} : cntH u (hdF L Sh L.length) = ldE L Sh u := h.cnt hd (Nat.le_refl _)
/-- The height is at most h, and a set tells that none is less. -/
def OriP (n : Int) (L : List (Int × Int)) (H pr : List Int) : Prop :=
  OkH L H ∧ ∃ h : Nat, (∀ u : Nat, u < 16 → cntH u H ≤ h) ∧ ((h = 0 ∧ pr = []) ∨ (0 < h ∧ Asc pr ∧ 0 < pr.length ∧ (∀ v, v ∈ pr → 0 ≤ v ∧ v < n) ∧ ((h : Int) - 1) * pr.length < insM L pr))
theorem cntH_pos {v : Int} : ∀ {H : List Int}, v ∈ H → 0 < cntH v H
  | x :: r, h => by
    have h2 := cntH_le (v := v) (A := r)
    rw [cntH]
    rcases List.mem_cons.1 h with e | e
    · rw [if_pos e.symm]; omega
    · have := cntH_pos e; split <;> omega
end Bg
end Go.Proofs.YtocgehoffdjijaaGreat
