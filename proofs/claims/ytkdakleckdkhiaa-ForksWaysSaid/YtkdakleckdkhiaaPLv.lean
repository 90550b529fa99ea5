/- forks: levels of right turns, of all turns; lists without doubles, plain. -/
import Derived.Test.YtkdakleckdkhiaaPCo
import Derived.Test.YtkdakleckdkhiaaPMg
namespace Go.Proofs.Ytkdakleckdkhiaa
theorem texts_nodup {Q : List T} (h : Q.Nodup) : (Q.map T.text).Nodup := List.Pairwise.map _ (fun _ _ hne e => hne (text_inj e)) h
theorem nodup_texts {Q : List T} (h : (Q.map T.text).Nodup) : Q.Nodup := (List.pairwise_map.1 h).imp fun h e => h (by rw [e])
theorem trees_len {Q : List T} {n : Nat} (hn : n ≤ 10) (h : Q.Nodup) (hs : ∀ t ∈ Q, t.size = n) : Q.length ≤ 16796 := by
  have h1 := nodup_len (texts_nodup h) (l' := allS n) fun s hs' => by
    obtain ⟨t, ht, rfl⟩ := List.mem_map.1 hs'
    exact (allS_mem _ _).2 ⟨t, rfl, hs t ht⟩
  rw [List.length_map] at h1
  have := allS_len hn
  omega
/-- The trees to which d right turns lead, below y. -/
structure Lvl (x y : T) (d : Nat) (Q : List T) : Prop where
  mem : ∀ t, t ∈ Q ↔ upN d x t ∧ t.le y
  nod : Q.Nodup
theorem Lvl.zero {x y : T} (h : x.le y) : Lvl x y 0 [x] := by
  refine ⟨fun t => ?_, by simp⟩
  rw [List.mem_singleton]
  constructor
  · rintro rfl; exact ⟨rfl, h⟩
  · rintro ⟨e, _⟩
    have e' : x = t := e
    exact e'.symm
theorem Lvl.size {x y : T} {d : Nat} {Q : List T} (h : Lvl x y d Q) {t : T} (ht : t ∈ Q) : t.size = x.size := upN_size ((h.mem t).1 ht).1
theorem Lvl.len {x y : T} {d : Nat} {Q : List T} (h : Lvl x y d Q) (hx : x.size ≤ 10) : Q.length ≤ 16796 := trees_len hx h.nod fun _ ht => h.size ht
theorem Lvl.bnd {x y : T} {d : Nat} {Q : List T} (h : Lvl x y d Q) (hx : x.size ≤ 10) {t : T} (ht : t ∈ Q) : d ≤ 100 := by
  have h1 := rk_upN ((h.mem t).1 ht).1
  have h2 := rk_nonneg x
  have h3 := rk_bnd t
  have hs : t.size ≤ 10 := by rw [h.size ht]; exact hx
  have h4 : (t.size : Int) * t.size ≤ 10 * 10 := by
    have := Nat.mul_le_mul hs hs
    exact_mod_cast this
  omega
/-- The next level's texts, from the first i of Q. -/
def NxM (y : T) (Q : List T) (i : Nat) (N : List Str) : Prop := ∀ s, s ∈ N ↔ ∃ t, t ∈ Q.take i ∧ ∃ z, up1 t z ∧ z.le y ∧ s = z.text
theorem Lvl.next {x y : T} {d : Nat} {Q : List T} {N X : List Str} (h : Lvl x y d Q) (hN : NxM y Q Q.length N) (hX : ∀ s, s ∈ X ↔ s ∈ N) (hn : X.Nodup) : ∃ Q', X = Q'.map T.text ∧ Lvl x y (d + 1) Q' := by
  have key : ∀ s, s ∈ X ↔ ∃ z, upN (d + 1) x z ∧ z.le y ∧ s = z.text := fun s => by
    rw [hX, hN s, List.take_length]
    constructor
    · rintro ⟨t, ht, z, hz, hle, rfl⟩
      exact ⟨z, upN_snoc ((h.mem t).1 ht).1 hz, hle, rfl⟩
    · rintro ⟨z, hz, hle, rfl⟩
      obtain ⟨t, ht, htz⟩ := upN_unsnoc hz
      exact ⟨t, (h.mem t).2 ⟨ht, le_trans (up1_size htz).symm (up1_le htz) hle⟩, z, htz, hle, rfl⟩
  obtain ⟨Q', e, _⟩ := texts_of x.size X fun s hs => by
    obtain ⟨z, hz, _, rfl⟩ := (key s).1 hs
    exact ⟨z, rfl, upN_size hz⟩
  refine ⟨Q', e.symm, fun t => ?_, nodup_texts (by rw [e]; exact hn)⟩
  have h1 : t ∈ Q' ↔ t.text ∈ X := by
    rw [← e, List.mem_map]
    exact ⟨fun ht => ⟨t, ht, rfl⟩, fun ⟨u, hu, eu⟩ => by rwa [text_inj eu] at hu⟩
  rw [h1, key]
  exact ⟨fun ⟨z, hz, hle, ez⟩ => by rw [text_inj ez]; exact ⟨hz, hle⟩, fun ⟨hz, hle⟩ => ⟨t, hz, hle, rfl⟩⟩
/-- X holds the first i of L, each once, ascending. -/
structure Uq (L : List Str) (i : Nat) (X : List Str) : Prop where
  mem : ∀ s, s ∈ X ↔ s ∈ L.take i
  srt : X.Pairwise (· < ·)
  len : X.length ≤ i
theorem Uq.zero (L : List Str) : Uq L 0 [] := ⟨by simp, by simp, by simp⟩
theorem mem_take_getD {L : List Str} {i j : Nat} (h : j < i) (hL : i ≤ L.length) : L.getD j [] ∈ L.take i := by
  have : L.getD j [] = (L.take i).getD j [] := by simp only [List.getD_eq_getElem?_getD]; rw [List.getElem?_take, if_pos h]
  rw [this]
  have hl : j < (L.take i).length := by rw [List.length_take]; omega
  rw [show (L.take i).getD j [] = (L.take i)[j] by simp only [List.getD_eq_getElem?_getD]; rw [List.getElem?_eq_getElem hl]; rfl]
  exact List.getElem_mem hl
theorem Uq.skip {L X : List Str} {i : Nat} (h : Uq L i X) (h0 : 0 < i) (hi : i < L.length) (e : L.getD (i - 1) [] = L.getD i []) : Uq L (i + 1) X := by
  refine ⟨fun s => ?_, h.srt, by have := h.len; omega⟩
  rw [h.mem, take_getD hi, List.mem_append, List.mem_singleton]
  constructor
  · exact .inl
  · rintro (hs | rfl)
    · exact hs
    · rw [← e]; exact mem_take_getD (by omega) (by omega)
theorem Uq.add {L X : List Str} {i : Nat} (h : Uq L i X) (hs : L.Pairwise (· ≤ ·)) (hi : i < L.length) (hne : i = 0 ∨ L.getD (i - 1) [] ≠ L.getD i []) : Uq L (i + 1) (X ++ [L.getD i []]) := by
  refine ⟨fun s => ?_, ?_, by have := h.len; simp; omega⟩
  · rw [take_getD hi, List.mem_append, List.mem_append, h.mem]
  · rw [List.pairwise_append]
    refine ⟨h.srt, by simp, fun a ha b hb => ?_⟩
    rw [List.mem_singleton] at hb
    subst hb
    have ha' := (h.mem a).1 ha
    obtain ⟨j, hj, e⟩ := List.getElem_of_mem ha'
    have hji : j < i := by rw [List.length_take] at hj; omega
    rw [List.getElem_take] at e
    have h1 : a ≤ L.getD (i - 1) [] := by
      by_cases ej : j = i - 1
      · subst ej; rw [← e, show L.getD (i - 1) [] = L[i - 1] by simp [List.getD, show i - 1 < L.length by omega]]; exact List.le_refl _
      · have := List.pairwise_iff_getElem.1 hs j (i - 1) (by omega) (by omega) (by omega)
        rw [e] at this
        rwa [show L.getD (i - 1) [] = L[i - 1] by simp [List.getD, show i - 1 < L.length by omega]]
    have h2 : L.getD (i - 1) [] ≤ L.getD i [] := by
      have := List.pairwise_iff_getElem.1 hs (i - 1) i (by omega) hi (by omega)
      rwa [show L.getD (i - 1) [] = L[i - 1] by simp [List.getD, show i - 1 < L.length by omega], show L.getD i [] = L[i] by simp [List.getD, hi]]
    refine Decidable.byContradiction fun hlt => ?_
    have h3 : L.getD i [] ≤ a := List.not_lt.1 hlt
    rcases hne with h0 | hne
    · omega
    · exact hne (List.le_antisymm h2 (List.le_trans h3 h1))
theorem Uq.nod {L X : List Str} {i : Nat} (h : Uq L i X) : X.Nodup := h.srt.imp fun h e => by subst e; exact List.lt_irrefl _ h
end Go.Proofs.Ytkdakleckdkhiaa
