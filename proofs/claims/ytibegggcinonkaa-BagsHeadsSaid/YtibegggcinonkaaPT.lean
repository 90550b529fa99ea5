/- Plain law: the search's tree grows; what a finished search shows; sorted sets. -/
import Derived.Test.YtibegggcinonkaaPH
namespace Go.Proofs.Ytibegggcinonkaa
theorem getD_snoc_lt {α : Type} {Q : List α} {x d : α} {j : Nat} (h : j < Q.length) : (Q ++ [x]).getD j d = Q.getD j d := by
  rw [List.getD_eq_getElem?_getD, List.getD_eq_getElem?_getD, List.getElem?_append_left h]
theorem getD_snoc_eq {α : Type} {Q : List α} {x d : α} : (Q ++ [x]).getD Q.length d = x := by simp [List.getD]
theorem range_len : ∀ (m : Nat) (Q : List Int), Q.Nodup → (∀ v, v ∈ Q → 0 ≤ v ∧ v < m) → Q.length ≤ m
  | 0, Q, _, hr => by
    cases Q with
    | nil => exact Nat.le_refl _
    | cons a r => have := hr a (by simp); omega
  | m + 1, Q, hn, hr => by
    by_cases c : (m : Int) ∈ Q
    · have h1 := range_len m (Q.erase (m : Int)) (hn.erase _) fun v hv => by
        have h2 := hr v (List.mem_of_mem_erase hv)
        have h3 : v ≠ (m : Int) := fun e => by subst e; exact (List.Nodup.not_mem_erase hn) hv
        omega
      rw [List.length_erase_of_mem c] at h1
      omega
    · have := range_len m Q hn fun v hv => by
        have h2 := hr v hv
        have h3 : v ≠ (m : Int) := fun e => c (e ▸ hv)
        omega
      omega
theorem set_len {n : Int} {Q : List Int} (hn : Q.Nodup) (hr : ∀ v, v ∈ Q → 0 ≤ v ∧ v < n) (h0 : n ≤ 16) : Q.length ≤ 16 := by
  refine range_len 16 Q hn fun v hv => ?_
  have := hr v hv; omega
section
variable {L Sh : List (Int × Int)} {e : Nat} {n : Int} {Qs : List Int} {Es : List Nat} {pr : Nat → Nat}
theorem Tr.start (he : (ed L e).1 ≠ (ed L e).2) (h1 : 0 ≤ (ed L e).1 ∧ (ed L e).1 < n) (h2 : 0 ≤ (ed L e).2 ∧ (ed L e).2 < n) : Tr L Sh e n [(ed L e).1, (ed L e).2] [e, e] pr :=
  ⟨rfl, by simp, rfl, rfl, fun j hj => by match j, hj with | 0, _ => rfl | 1, _ => rfl, by simpa [ed] using he, fun v hv => by simp at hv; rcases hv with rfl | rfl <;> assumption, fun j h1 h2 => by simp at h2; omega⟩
theorem Tr.push (h : Tr L Sh e n Qs Es pr) {u : Int} {k i : Nat} (hu : u ∉ Qs) (hr : 0 ≤ u ∧ u < n) (hk : k < L.length) (hi : i < Qs.length) (hJ : Jn L k (Qs.getD i 0) u) (hp : 0 < hs L Sh k (Qs.getD i 0)) :
    Tr L Sh e n (Qs ++ [u]) (Es ++ [k]) (fun j => if j = Qs.length then i else pr j) := by
  have hl := h.len
  have h2 := h.two
  have gE : ∀ j, j < Qs.length → (Es ++ [k]).getD j 0 = Es.getD j 0 := fun j hj => getD_snoc_lt (by omega)
  have gE2 : (Es ++ [k]).getD Qs.length 0 = k := by rw [← hl]; exact getD_snoc_eq
  refine ⟨by simp [hl], by simp; omega, by rw [getD_snoc_lt (by omega)]; exact h.q0, by rw [getD_snoc_lt (by omega)]; exact h.q1, fun j hj => by rw [gE j (by omega)]; exact h.e01 j hj, ?_, fun v hv => ?_, fun j hj1 hj2 => ?_⟩
  · rw [List.nodup_append]; exact ⟨h.nodup, by simp, fun a ha b hb => by simp at hb; subst hb; rintro rfl; exact hu ha⟩
  · rcases List.mem_append.1 hv with hv | hv
    · exact h.rng v hv
    · simp at hv; subst hv; exact hr
  · by_cases c : j = Qs.length
    · subst c
      simp only [if_true, gE2, getD_snoc_eq]
      rw [getD_snoc_lt hi]
      exact ⟨hk, hi, hJ, hp⟩
    · have hj3 : j < Qs.length := by simp at hj2; omega
      obtain ⟨a1, a2, a3, a4⟩ := h.par j hj1 hj3
      simp only [if_neg c, gE j hj3]
      rw [getD_snoc_lt hj3, getD_snoc_lt (by omega)]
      exact ⟨a1, a2, a3, a4⟩
end
/-- A vertex has been looked at: all that it has something of an edge with are known. -/
def Seen (L Sh : List (Int × Int)) (Qs : List Int) (v : Int) : Prop := ∀ x, x ∈ nb L v L.length → 0 < hs L Sh x.1.toNat v → x.2 ∈ Qs
theorem Seen.mono {L Sh : List (Int × Int)} {Qs Qs' : List Int} {v : Int} (h : Seen L Sh Qs v) (hm : ∀ u, u ∈ Qs → u ∈ Qs') : Seen L Sh Qs' v := fun x hx hp => hm _ (h x hx hp)
theorem Clo.of_seen {L Sh : List (Int × Int)} {Ld : List Int} {most whole n : Int} {Qs S : List Int} (hd : ∀ k, k < L.length → (ed L k).1 ≠ (ed L k).2) (hr : ∀ v, v ∈ Qs → 0 ≤ v ∧ v < n) (hn : n ≤ 16) (hS : Shr L Sh Ld most whole)
    (hf : ∀ v, v ∈ Qs → ¬ Ld.getD v.toNat 0 < most) (hs_ : ∀ v, v ∈ Qs → Seen L Sh Qs v) (hm : ∀ v, v ∈ S ↔ v ∈ Qs) : Clo L Sh Ld most n S := by
  refine ⟨fun v hv => hr v ((hm v).1 hv), fun v hv => ?_, fun k hk h1 h2 => ?_, fun k hk h1 h2 => ?_⟩
  · have := hr v ((hm v).1 hv)
    have h1 := (hS.loadI (v := v) (by omega)).2
    have := hf v ((hm v).1 hv)
    omega
  · have := hs_ _ ((hm _).1 h1) _ ((nb_of hk).1 rfl)
    refine (hm _).2 (this ?_)
    simp only [Int.toNat_natCast]
    unfold hs; rw [if_pos rfl]; exact h2
  · have := hs_ _ ((hm _).1 h1) _ ((nb_of hk).2 (hd k hk) rfl)
    refine (hm _).2 (this ?_)
    simp only [Int.toNat_natCast]
    unfold hs; rw [if_neg (hd k hk)]; exact h2
/-- A set in ascending order. -/
def Asc (S : List Int) : Prop := ∀ i, 0 < i → i < S.length → S.getD (i - 1) 0 < S.getD i 0
theorem Asc.lt {S : List Int} (h : Asc S) : ∀ {i j : Nat}, i < j → j < S.length → S.getD i 0 < S.getD j 0 := by
  intro i j hij
  induction j with
  | zero => omega
  | succ j ih =>
    intro hj
    have h1 := h (j + 1) (by omega) hj
    rw [Nat.add_sub_cancel] at h1
    by_cases c : i = j
    · subst c; exact h1
    · have := ih (by omega) (by omega); omega
theorem Asc.nodup {S : List Int} (h : Asc S) : S.Nodup := by
  rw [List.nodup_iff_pairwise_ne, List.pairwise_iff_getElem]
  intro i j hi hj hij e
  have := h.lt hij hj
  rw [List.getD_eq_getElem?_getD, List.getD_eq_getElem?_getD, List.getElem?_eq_getElem hi, List.getElem?_eq_getElem hj] at this
  simp at this; omega
theorem Asc.tail {a : Int} {S : List Int} (h : Asc (a :: S)) : Asc S ∧ ∀ v, v ∈ S → a < v := by
  refine ⟨fun i h0 hi => ?_, fun v hv => ?_⟩
  · have := h (i + 1) (by omega) (by simpa using hi)
    obtain ⟨j, rfl⟩ : ∃ j, i = j + 1 := ⟨i - 1, by omega⟩
    simpa using this
  · obtain ⟨i, hi, rfl⟩ := List.getElem_of_mem hv
    have := h.lt (i := 0) (j := i + 1) (by omega) (by simpa using hi)
    simpa [List.getD, hi] using this
/-- Sets in ascending order with the same members are the same. -/
theorem Asc.ext : ∀ {S T : List Int}, Asc S → Asc T → (∀ v, v ∈ S ↔ v ∈ T) → S = T
  | [], [], _, _, _ => rfl
  | [], b :: T, _, _, h => by have := (h b).2 (by simp); simp at this
  | a :: S, [], _, _, h => by have := (h a).1 (by simp); simp at this
  | a :: S, b :: T, h1, h2, h => by
    obtain ⟨t1, l1⟩ := h1.tail
    obtain ⟨t2, l2⟩ := h2.tail
    have hab : a = b := by
      have ha := (h a).1 (by simp)
      have hb := (h b).2 (by simp)
      rcases List.mem_cons.1 ha with e | ha
      · exact e
      · rcases List.mem_cons.1 hb with e | hb
        · exact e.symm
        · have := l2 a ha; have := l1 b hb; omega
    subst hab
    rw [Asc.ext t1 t2 fun v => ?_]
    have := h v
    simp only [List.mem_cons] at this
    constructor
    · intro hv
      rcases this.1 (.inr hv) with e | e
      · subst e; have := l1 v hv; omega
      · exact e
    · intro hv
      rcases this.2 (.inr hv) with e | e
      · subst e; have := l2 v hv; omega
      · exact e
theorem asc_sort {Q : List Int} (h : Q.Nodup) : Asc (Q.mergeSort fun x y => decide (x ≤ y)) := by
  have h1 := List.pairwise_mergeSort (le := fun x y : Int => decide (x ≤ y)) (fun a b c h1 h2 => by simp at *; omega) (fun a b => by simp; omega) Q
  have h2 : (Q.mergeSort fun x y => decide (x ≤ y)).Nodup := (List.mergeSort_perm Q _).nodup_iff.2 h
  generalize Q.mergeSort (fun x y => decide (x ≤ y)) = S at *
  intro i h0 hi
  have a1 := List.pairwise_iff_getElem.1 h1 (i - 1) i (by omega) hi (by omega)
  have a2 := List.pairwise_iff_getElem.1 (List.nodup_iff_pairwise_ne.1 h2) (i - 1) i (by omega) hi (by omega)
  rw [List.getD_eq_getElem?_getD, List.getD_eq_getElem?_getD, List.getElem?_eq_getElem hi, List.getElem?_eq_getElem (by omega)]
  simp at *; omega
theorem mem_sort {Q : List Int} {v : Int} : v ∈ Q.mergeSort (fun x y => decide (x ≤ y)) ↔ v ∈ Q := (List.mergeSort_perm Q _).mem_iff
end Go.Proofs.Ytibegggcinonkaa
