/- Plain law: heights of orientations, what the returned set proves about them. -/
import Derived.Test.YtibegggcinonkaaPO
import Derived.Test.YtibegggcinonkaaPG
import Derived.Test.YtibegggcinonkaaIs
namespace Go.Proofs.Ytibegggcinonkaa
open Gv
section
variable {n : Int} {L : List (Int × Int)} {H S pr : List Int} {r b : Int}
theorem isS_of (ha : Asc S) (hp : 0 < S.length) (hr : ∀ v, v ∈ S → 0 ≤ v ∧ v < n) : IsS n S :=
  ⟨hp, fun i hi => ⟨hr _ (getD_memI hi), fun h0 => ha i h0 hi⟩⟩
theorem IsS.asc (h : IsS n S) : Asc S := fun i h0 hi => (h.2 i hi).2 h0
theorem IsS.rng (h : IsS n S) : ∀ v, v ∈ S → 0 ≤ v ∧ v < n := fun v hv => by
  obtain ⟨i, hi, rfl⟩ := List.getElem_of_mem hv
  have := (h.2 i hi).1
  rwa [getD_lt hi] at this
/-- The share that an orientation is. -/
def shH (L : List (Int × Int)) (H : List Int) : List (Int × Int) := (List.range L.length).map fun k => if H.getD k 0 = (ed L k).1 then (1, 0) else (0, 1)
theorem ed_shH {k : Nat} (hk : k < L.length) : ed (shH L H) k = if H.getD k 0 = (ed L k).1 then (1, 0) else (0, 1) := by
  unfold ed shH
  rw [List.getD_eq_getElem?_getD, List.getElem?_map, List.getElem?_range hk]; rfl
theorem shH_one : One L (shH L H) := fun k hk => by
  unfold sm
  rw [ed_shH hk]
  split <;> simp
theorem shH_hd (h : OkH L H) : hdF L (shH L H) L.length = H := by
  refine List.ext_getElem (by rw [hdF_len, h.1]) fun i h1 h2 => ?_
  have hi : i < L.length := by rw [← h.1]; exact h2
  have e1 := hdF_get (L := L) (Sh := shH L H) (k := i) (m := L.length) hi
  rw [getD_lt h1] at e1
  rw [e1, ed_shH hi]
  have e2 := h.2 i hi
  rw [getD_lt h2] at e2
  rw [getD_lt h2]
  by_cases c : H[i] = (ed L i).1
  · rw [if_pos c, c]; simp
  · rw [if_neg c]; rcases e2 with e | e
    · exact absurd e c
    · rw [e]; simp
/-- No set has more edges inside than its vertices times the height. -/
theorem OkH.bound (h : OkH L H) (hd : ∀ k, k < L.length → (ed L k).1 ≠ (ed L k).2) (hS : S.Nodup) (hr : ∀ v, v ∈ S → 0 ≤ v ∧ v < 16) (hb : ∀ u : Nat, u < 16 → cntH u H ≤ b) : insM L S ≤ b * S.length := by
  have hl : ∀ v, v ∈ S → ldE L (shH L H) v ≤ b := fun v hv => by
    obtain ⟨u, rfl⟩ : ∃ u : Nat, v = u := ⟨v.toNat, by have := hr v hv; omega⟩
    have := (shH_one (L := L) (H := H)).load hd (u := (u : Int))
    rw [← this, shH_hd h]
    exact hb u (by have := hr _ hv; omega)
  refine Int.le_trans ?_ (sumL_le hl)
  rw [load_sum hS]
  unfold insM
  refine sumTo_le fun k hk => ?_
  have h1 := shH_one (L := L) (H := H) k hk
  unfold sm at h1
  unfold cS
  by_cases c : bothIn L S k
  · rw [if_pos c, if_pos c.1, if_pos c.2]; omega
  · rw [if_neg c]; split <;> split <;> omega
theorem OriP.zero (h : OriP n L H pr) (hr : IsHt H 0) (hG : ∀ k, k < L.length → 0 ≤ (ed L k).1 ∧ (ed L k).1 < (ed L k).2 ∧ (ed L k).2 < n) (hn : n ≤ 16) : L.length = 0 ∧ pr = [] := by
  obtain ⟨hO, g, hg, hp⟩ := h
  have hL : L.length = 0 := by
    refine Nat.eq_zero_of_not_pos fun hpos => ?_
    have h1 := hO.2 0 hpos
    have h2 := hG 0 hpos
    have h3 := getD_memI (Qs := H) (j := 0) (by rw [hO.1]; exact hpos)
    have h4 := cntH_pos h3
    obtain ⟨u, hu⟩ : ∃ u : Nat, H.getD 0 0 = u := ⟨(H.getD 0 0).toNat, by omega⟩
    rw [hu] at h4
    have := hr.1 u (by omega)
    omega
  refine ⟨hL, ?_⟩
  rcases hp with ⟨_, e⟩ | ⟨h0, _, _, _, hlt⟩
  · exact e
  · have h3 := insM_le (L := L) (S := pr)
    have h4 : 0 ≤ ((g : Int) - 1) * pr.length := Int.mul_nonneg (by omega) (by omega)
    omega
theorem OriP.pos (h : OriP n L H pr) (hr : IsHt H r) (h0 : r ≠ 0) : (Asc pr ∧ 0 < pr.length ∧ (∀ v, v ∈ pr → 0 ≤ v ∧ v < n)) ∧ 0 < r ∧ (r - 1) * pr.length < insM L pr := by
  obtain ⟨hO, g, hg, hp⟩ := h
  obtain ⟨h1, u, hu, e⟩ := hr
  have h2 := hg u hu
  have h3 := (cntH_le (v := (u : Int)) (A := H)).1
  rcases hp with ⟨e', _⟩ | ⟨h4, ha, hl, hrng, hlt⟩
  · omega
  · refine ⟨⟨ha, hl, hrng⟩, by omega, ?_⟩
    have := Int.mul_le_mul_of_nonneg_right (show r - 1 ≤ (g : Int) - 1 by omega) (show (0 : Int) ≤ pr.length by omega)
    omega
/-- r is the smallest height. -/
structure MinH (n : Int) (L : List (Int × Int)) (r : Int) : Prop where
  nn : 0 ≤ r
  up : ∀ T : List Int, T.Nodup → (∀ v, v ∈ T → 0 ≤ v ∧ v < n) → insM L T ≤ r * T.length
  low : r = 0 ∨ ∃ T : List Int, T.Nodup ∧ 0 < T.length ∧ (∀ v, v ∈ T → 0 ≤ v ∧ v < n) ∧ (r - 1) * T.length < insM L T
theorem OriP.min (h : OriP n L H pr) (hr : IsHt H r) (hG : ∀ k, k < L.length → 0 ≤ (ed L k).1 ∧ (ed L k).1 < (ed L k).2 ∧ (ed L k).2 < n) (hn : n ≤ 16) : MinH n L r := by
  have hnn : 0 ≤ r := by obtain ⟨_, u, _, e⟩ := hr; have := (cntH_le (v := (u : Int)) (A := H)).1; omega
  refine ⟨hnn, fun T hT hTr => h.1.bound (fun k hk => by have := hG k hk; omega) hT (fun v hv => by have := hTr v hv; omega) hr.1, ?_⟩
  by_cases c : r = 0
  · exact .inl c
  · obtain ⟨⟨h1, h2, h3⟩, _, h4⟩ := h.pos hr c
    exact .inr ⟨pr, h1.nodup, h2, h3, h4⟩
/-- No orientation is lower. -/
theorem MinH.least (h : MinH n L r) (hO : OkH L H) (hb : IsHt H b) (hd : ∀ k, k < L.length → (ed L k).1 ≠ (ed L k).2) (hn : n ≤ 16) : r ≤ b := by
  have hnn : 0 ≤ b := by obtain ⟨_, u, _, e⟩ := hb; have := (cntH_le (v := (u : Int)) (A := H)).1; omega
  rcases h.low with e | ⟨T, hT, h0, hr, hlt⟩
  · omega
  · have h1 := hO.bound hd hT (fun v hv => by have := hr v hv; omega) hb.1
    have h2 : (r - 1) * T.length < b * T.length := by omega
    have := Int.lt_of_mul_lt_mul_right h2 (by omega)
    omega
theorem OriP.iff (h : OriP n L H pr) (hr : IsHt H r) (hG : ∀ k, k < L.length → 0 ≤ (ed L k).1 ∧ (ed L k).1 < (ed L k).2 ∧ (ed L k).2 < n) (hn : n ≤ 16) : 0 < r ↔ 0 < pr.length := by
  have hnn : 0 ≤ r := by obtain ⟨_, u, _, e⟩ := hr; have := (cntH_le (v := (u : Int)) (A := H)).1; omega
  by_cases c : r = 0
  · subst c
    rw [(h.zero hr hG hn).2]; simp
  · have := (h.pos hr c).1.2.1
    exact ⟨fun _ => this, fun _ => by omega⟩
end
end Go.Proofs.Ytibegggcinonkaa
