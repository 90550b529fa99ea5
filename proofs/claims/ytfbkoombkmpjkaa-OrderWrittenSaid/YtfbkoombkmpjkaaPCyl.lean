/- Plain: the order with written cycles, number by number. No program in sight. -/
import Derived.Test.YtfbkoombkmpjkaaPTab
namespace Go.Proofs.Ytfbkoombkmpjkaa
open CY PO
namespace CL
/-- A record stands at place i. -/
def isR (L : List Int) (i : Nat) : Prop := mostB L i < L.getD i 0
instance (L : List Int) (i : Nat) : Decidable (isR L i) := by unfold isR; infer_instance
/-- Where the part of place i begins. -/
def stt (L : List Int) : Nat → Nat
  | 0 => 0
  | i + 1 => if isR L (i + 1) then i + 1 else stt L i
def nx (L : List Int) (i : Nat) : Nat := if i + 1 < L.length ∧ ¬ isR L (i + 1) then i + 1 else stt L i
/-- The order, after the first k written numbers. -/
def cyK (L : List Int) : Nat → List Int
  | 0 => List.replicate L.length 0
  | i + 1 => (cyK L i).set (nxt L i) (L.getD (nx L i) 0)
theorem cyK_len {L : List Int} : ∀ {k : Nat}, (cyK L k).length = L.length
  | 0 => by simp [cyK]
  | k + 1 => by simp [cyK, cyK_len]
def E (L : List Int) (n : Nat) : List Int := recs L n ++ [(n : Int)]
theorem E_at {L : List Int} {n k : Nat} : (E L n).getD k 0 = if k < (recs L n).length then (recs L n).getD k 0 else if k = (recs L n).length then (n : Int) else 0 := snoc_at
theorem recs_pos {L : List Int} {n : Nat} (h : isR L n) : recs L (n + 1) = recs L n ++ [(n : Int)] := by
  have h' : L.getD n 0 > mostB L n := h
  simp only [recs]; rw [if_pos h']
theorem recs_neg {L : List Int} {n : Nat} (h : ¬ isR L n) : recs L (n + 1) = recs L n := by
  have h' : ¬ L.getD n 0 > mostB L n := h
  simp only [recs]; rw [if_neg h', List.append_nil]
theorem recs_one {L : List Int} (h : 1 ≤ L.getD 0 0) : recs L 1 = [0] := by
  have : isR L 0 := by show (0 : Int) < _; omega
  rw [recs_pos this]; rfl
/-- Between two ends there is no record, and each begins with one. -/
theorem gap {L : List Int} : ∀ {n k : Nat}, k < (recs L n).length → ∃ s e : Nat, (E L n).getD k 0 = s ∧ (E L n).getD (k + 1) 0 = e ∧ s < e ∧ e ≤ n ∧ isR L s ∧ (∀ i, s < i → i < e → ¬ isR L i) ∧ (e < n → isR L e)
  | 0, k, h => by simp [recs] at h
  | n + 1, k, h => by
    by_cases hr : isR L n
    · have hrec : recs L (n + 1) = recs L n ++ [(n : Int)] := recs_pos hr
      rw [hrec, List.length_append, List.length_singleton] at h
      by_cases hk : k < (recs L n).length
      · obtain ⟨s, e, h1, h2, h3, h4, h5, h6, h7⟩ := gap (n := n) hk
        refine ⟨s, e, ?_, ?_, h3, by omega, h5, h6, fun _ => ?_⟩
        · unfold E; rw [hrec, snoc_at, if_pos (by simp; omega)]; exact h1
        · unfold E; rw [hrec, snoc_at, if_pos (by simp; omega)]; exact h2
        · by_cases e2 : e < n
          · exact h7 e2
          · rw [show e = n by omega]; exact hr
      · have hk2 : k = (recs L n).length := by omega
        refine ⟨n, n + 1, ?_, ?_, by omega, by omega, hr, fun i a b => by omega, fun a => by omega⟩
        · unfold E; rw [hrec, snoc_at, if_pos (by simp; omega), snoc_at, if_neg (by omega), if_pos hk2]
        · unfold E; rw [hrec, snoc_at, if_neg (by simp; omega), if_pos (by simp; omega)]
    · have hrec : recs L (n + 1) = recs L n := recs_neg hr
      rw [hrec] at h
      obtain ⟨s, e, h1, h2, h3, h4, h5, h6, h7⟩ := gap (n := n) h
      by_cases hk : k + 1 < (recs L n).length
      · refine ⟨s, e, ?_, ?_, h3, by omega, h5, h6, fun _ => ?_⟩
        · rw [← h1, E_at, E_at, hrec, if_pos h, if_pos h]
        · rw [← h2, E_at, E_at, hrec, if_pos hk, if_pos hk]
        · by_cases e2 : e < n
          · exact h7 e2
          · exfalso
            have he : e = n := by omega
            rw [E_at, if_pos hk] at h2
            obtain ⟨s2, e3, g1, _, g3, g4, _⟩ := gap (L := L) (n := n) hk
            rw [E_at, if_pos hk] at g1
            omega
      · have hk2 : k + 1 = (recs L n).length := by omega
        have he : e = n := by rw [E_at, if_neg (by omega), if_pos hk2] at h2; omega
        subst he
        refine ⟨s, e + 1, ?_, ?_, by omega, by omega, h5, fun i a b => ?_, fun a => by omega⟩
        · rw [← h1, E_at, E_at, hrec, if_pos h, if_pos h]
        · rw [E_at, hrec, if_neg (by omega), if_pos hk2]
        · by_cases e2 : i < e
          · exact h6 i a e2
          · rw [show i = e by omega]; exact hr
theorem stt_eq {L : List Int} {s e : Nat} (hs : isR L s ∨ s = 0) (hg : ∀ i, s < i → i < e → ¬ isR L i) : ∀ {d : Nat}, s + d < e → stt L (s + d) = s
  | 0, h => by
    cases s with
    | zero => rfl
    | succ s =>
      rcases hs with hs | hs
      · show (if isR L (s + 1) then s + 1 else stt L s) = _; rw [if_pos hs]
      · omega
  | d + 1, h => by
    show (if isR L (s + d + 1) then s + d + 1 else stt L (s + d)) = _
    rw [if_neg (hg _ (by omega) (by omega)), stt_eq hs hg (by omega)]
theorem nx_eq {L : List Int} {s e d : Nat} (hs : isR L s ∨ s = 0) (hg : ∀ i, s < i → i < e → ¬ isR L i) (he : e ≤ L.length) (he2 : e < L.length → isR L e) (h : s + d < e) : nx L (s + d) = if s + d + 1 < e then s + d + 1 else s := by
  unfold nx
  by_cases c : s + d + 1 < e
  · rw [if_pos c, if_pos ⟨by omega, hg _ (by omega) c⟩]
  · rw [if_neg c, if_neg, stt_eq hs hg h]
    intro hh
    exact hh.2 (by rw [show s + d + 1 = e by omega]; exact he2 (by omega))
theorem E_zero {L : List Int} (h : Ok L) : ∀ {n : Nat}, n ≤ L.length → (E L n).getD 0 0 = 0
  | 0, _ => rfl
  | n + 1, hn => by
    have ih := E_zero h (n := n) (by omega)
    have h0 := h.rng 0 (by omega)
    by_cases hz : n = 0
    · subst hz
      have : recs L 1 = [0] := recs_one (by omega)
      unfold E; rw [this]; rfl
    · have hpos : 0 < (recs L n).length := by
        have : ∀ m, 1 ≤ m → 0 < (recs L m).length := by
          intro m hm
          induction m with
          | zero => omega
          | succ m ihm =>
            by_cases hm0 : m = 0
            · subst hm0
              have : recs L 1 = [0] := recs_one (by omega)
              show 0 < (recs L 1).length
              rw [this]; simp
            · have := ihm (by omega)
              simp only [recs, List.length_append]; omega
        exact this n (by omega)
      rw [E_at, if_pos hpos] at ih
      have hl : (recs L n).length ≤ (recs L (n + 1)).length := by simp only [recs, List.length_append]; omega
      rw [E_at, if_pos (by omega)]
      simp only [recs]
      split
      · rw [snoc_at, if_pos hpos]; exact ih
      · rw [List.append_nil]; exact ih
theorem most_in {L : List Int} {s e : Nat} (hr : isR L s) (hg : ∀ i, s < i → i < e → ¬ isR L i) : ∀ {d : Nat}, s + 1 + d ≤ e → mostB L (s + 1 + d) = L.getD s 0
  | 0, _ => by show (if L.getD s 0 > mostB L s then _ else _) = _; rw [if_pos (show L.getD s 0 > mostB L s from hr)]
  | d + 1, h => by
    show (if L.getD (s + 1 + d) 0 > mostB L (s + 1 + d) then _ else mostB L (s + 1 + d)) = _
    rw [if_neg (show ¬ L.getD (s + 1 + d) 0 > mostB L (s + 1 + d) from hg _ (by omega) (by omega)), most_in hr hg (by omega)]
end CL
end Go.Proofs.Ytfbkoombkmpjkaa
