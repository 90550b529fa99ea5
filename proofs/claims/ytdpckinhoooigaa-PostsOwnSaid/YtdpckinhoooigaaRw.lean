/- posts: rows that were made here, put together in one table. -/
import Derived.Test.YtdpckinhoooigaaZ1
namespace Go.Proofs.Ytdpckinhoooigaa
open Gv PM MM
def RowsB (w : World) (B : Nat → Prop) (vs : List Value) (T : List (List Int)) : Prop :=
  vs.length = T.length ∧ (∀ (i : Nat) (u : Value), vs[i]? = some u → OwnI w 0 3 u (T.getD i [])) ∧
    (∀ (i j : Nat) (u u' : Value) (g : Nat), vs[i]? = some u → vs[j]? = some u' → u.ownBlock = some g → u'.ownBlock = some g → i = j) ∧
    ∀ (i : Nat) (u : Value) (g : Nat), vs[i]? = some u → u.ownBlock = some g → B g
section
variable {w w' : World} {B C : Nat → Prop} {vs us : List Value} {T U : List (List Int)} {lo hi : Nat}
theorem RowsB.ext (h : RowsB w B vs T) (hc : Ext w w') : RowsB w' B vs T := by
  obtain ⟨h1, h2, h3, h4⟩ := h
  exact ⟨h1, fun i u hu => ownsRow_ext (h2 i u hu) hc, h3, h4⟩
theorem app_at {α : Type} {l1 l2 : List α} {i : Nat} {u : α} (h : (l1 ++ l2)[i]? = some u) : (i < l1.length ∧ l1[i]? = some u) ∨ (l1.length ≤ i ∧ l2[i - l1.length]? = some u) := by
  by_cases hi : i < l1.length
  · rw [List.getElem?_append_left hi] at h; exact .inl ⟨hi, h⟩
  · rw [List.getElem?_append_right (by omega)] at h; exact .inr ⟨by omega, h⟩
theorem RowsB.app (h : RowsB w B vs T) (h' : RowsB w C us U) (hd : ∀ g, B g → ¬ C g) : RowsB w (fun g => B g ∨ C g) (vs ++ us) (T ++ U) := by
  obtain ⟨h1, h2, h3, h4⟩ := h
  obtain ⟨g1, g2, g3, g4⟩ := h'
  refine ⟨by simp [h1, g1], fun i u hu => ?_, fun i j u u' g hu hu' hg hg' => ?_, fun i u g hu hg => ?_⟩
  · rcases app_at hu with ⟨a, b⟩ | ⟨a, b⟩
    · have := h2 i u b
      rwa [show (T ++ U).getD i [] = T.getD i [] by simp only [List.getD]; rw [List.getElem?_append_left (by omega)]]
    · have := g2 _ u b
      rwa [show (T ++ U).getD i [] = U.getD (i - vs.length) [] by simp only [List.getD]; rw [List.getElem?_append_right (by omega), h1]]
  · rcases app_at hu with ⟨a, b⟩ | ⟨a, b⟩
    · rcases app_at hu' with ⟨a', b'⟩ | ⟨a', b'⟩
      · exact h3 i j u u' g b b' hg hg'
      · exact absurd (g4 _ _ _ b' hg') (hd g (h4 _ _ _ b hg))
    · rcases app_at hu' with ⟨a', b'⟩ | ⟨a', b'⟩
      · exact absurd (g4 _ _ _ b hg) (hd g (h4 _ _ _ b' hg'))
      · have := g3 _ _ u u' g b b' hg hg'; omega
  · rcases app_at hu with ⟨a, b⟩ | ⟨a, b⟩
    · exact .inl (h4 _ _ _ b hg)
    · exact .inr (g4 _ _ _ b hg)
theorem RowsB.ownB {eo lo : Nat} {v : Value} (h : RowsB w B vs T) (ho : Own w lo eo v vs) (hv : ∀ g, v.ownBlock = some g → C g ∧ ¬ B g) (hB : ∀ g, B g → C g) : OwnB w C eo 3 v T := by
  obtain ⟨h1, h2, h3, h4⟩ := h
  exact ⟨vs, ho.mono (Nat.zero_le _), h1, h2, h3, fun i u g hu hg => ⟨hB g (h4 i u g hu hg), fun e => (hv g e).2 (h4 i u g hu hg)⟩, fun g hg => (hv g hg).1⟩
theorem OwnT.rowsB {eo : Nat} {v : Value} (h : OwnT w lo hi eo 3 v T) : ∃ vs, Own w lo eo v vs ∧ RowsB w (fun g => lo ≤ g ∧ g < hi) vs T := by
  obtain ⟨vs, h1, h2, h3, h4, h5, h6⟩ := h
  exact ⟨vs, h1, h2, fun i u hu => ownsRow_mono (h3 i u hu) (Nat.zero_le _), h4, fun i u g hu hg => ⟨(World.ownsRow.lt (h3 i u hu) g hg).1, (h5 i u g hu hg).1⟩⟩
theorem OwnZ.rowsB {e n c : Nat} {p : Option Addr} {L : List (Int × List Int)} (h : OwnZ w lo hi e (.slice p n c) L) : ∃ us, RowsB w (fun g => lo ≤ g ∧ g < hi) us (L.map (·.2)) ∧
    ∀ i, i < L.length → ∃ u, us[i]? = some u ∧ u.oneCell' = true ∧ Gv.rd w ((pidx p i 2).map fun a => a.add 1) = some u := by
  obtain ⟨xs, h1, h2, h3, h4, h5⟩ := h
  have hg : ∀ i, i < L.length → ((List.range L.length).map fun i => xs.getD (i * 2 + 1) (.bool false))[i]? = xs[i * 2 + 1]? := fun i hi => by
    obtain ⟨_, u, hu, _⟩ := h2.2 i hi
    rw [List.getElem?_map, List.getElem?_range hi]
    simp [List.getD, hu]
  have hlt : ∀ (i : Nat) (u : Value), ((List.range L.length).map fun i => xs.getD (i * 2 + 1) (.bool false))[i]? = some u → i < L.length := fun i u hu => by
    have := (List.getElem?_eq_some_iff.1 hu).1
    simpa using this
  refine ⟨(List.range L.length).map fun i => xs.getD (i * 2 + 1) (.bool false), ⟨by simp, fun i u hu => ?_, fun i j u u' g hu hu' hug hug' => ?_, fun i u g hu hug => ?_⟩, fun i hi => ?_⟩
  · have hi := hlt i u hu
    rw [hg i hi] at hu
    have := ownsRow_mono (h4 i u hi hu) (Nat.zero_le _)
    rwa [show (L.map (·.2)).getD i [] = (L.getD i (0, [])).2 by simp [List.getD, hi]]
  · have hi := hlt i u hu
    have hj := hlt j u' hu'
    rw [hg i hi] at hu
    rw [hg j hj] at hu'
    exact h5 i j u u' g hi hj hu hu' hug hug'
  · have hi := hlt i u hu
    rw [hg i hi] at hu
    have := h3 i u g hi hu hug
    exact ⟨this.2.2, this.1⟩
  · obtain ⟨_, u, hu, hI⟩ := h2.2 i hi
    refine ⟨u, (hg i hi).trans hu, ?_, Sl.rd (ownsRow_sl h1) i 1 hu (by decide)⟩
    obtain ⟨q, m, rfl, _⟩ := hI.slice
    rfl
end
end Go.Proofs.Ytdpckinhoooigaa
