/- forks: all trees with n forks in ascending order, plain. -/
import Derived.Test.YtkdakleckdkhiaaPW
namespace Go.Proofs.Ytkdakleckdkhiaa
abbrev sortP (L : List Str) : List Str := L.mergeSort fun x y => decide (x ≤ y)
theorem sortP_perm (L : List Str) : (sortP L).Perm L := List.mergeSort_perm _ _
theorem sortP_sorted (L : List Str) : (sortP L).Pairwise (· ≤ ·) := by
  have := List.pairwise_mergeSort (le := fun x y : Str => decide (x ≤ y)) (fun a b c h1 h2 => decide_eq_true (List.le_trans (of_decide_eq_true h1) (of_decide_eq_true h2)))
    (fun a b => by rcases List.le_total a b with h | h <;> simp [h]) L
  exact this.imp fun h => of_decide_eq_true h
theorem sortP_eq {L L' : List Str} (hp : L'.Perm L) (hs : L'.Pairwise (· ≤ ·)) : L' = sortP L :=
  List.Perm.eq_of_pairwise (fun _ _ _ _ h1 h2 => List.le_antisymm h1 h2) hs (sortP_sorted L) (hp.trans (sortP_perm L).symm)
theorem sortP_len (L : List Str) : (sortP L).length = L.length := (sortP_perm L).length_eq
theorem sortP_mem {L : List Str} {s : Str} : s ∈ sortP L ↔ s ∈ L := (sortP_perm L).mem_iff
def rowS (l : Str) (B : List Str) : List Str := B.map fun r => [40] ++ l ++ r ++ [41]
def blkS (A B : List Str) : List Str := A.flatMap fun l => rowS l B
def preS (ls : List (List Str)) (M k : Nat) : List Str := (List.range k).flatMap fun k => blkS (ls.getD k []) (ls.getD (M - k) [])
def al : Nat → List (List Str)
  | 0 => [[[46]]]
  | m + 1 => al m ++ [sortP (preS (al m) m (m + 1))]
theorem rowS_take {l : Str} {B : List Str} {j : Nat} (h : j < B.length) : rowS l (B.take (j + 1)) = rowS l (B.take j) ++ [[40] ++ l ++ B.getD j [] ++ [41]] := by
  unfold rowS
  rw [List.take_succ_eq_append_getElem h, show B.getD j [] = B[j] by simp [List.getD, h], List.map_append, List.map_cons, List.map_nil]
theorem blkS_take {A B : List Str} {i : Nat} (h : i < A.length) : blkS (A.take (i + 1)) B = blkS (A.take i) B ++ rowS (A.getD i []) B := by
  unfold blkS
  rw [List.take_succ_eq_append_getElem h, show A.getD i [] = A[i] by simp [List.getD, h], List.flatMap_append, List.flatMap_cons, List.flatMap_nil, List.append_nil]
theorem preS_succ (ls : List (List Str)) (M k : Nat) : preS ls M (k + 1) = preS ls M k ++ blkS (ls.getD k []) (ls.getD (M - k) []) := by
  unfold preS
  rw [List.range_succ]
  simp
theorem rowS_len (l : Str) (B : List Str) : (rowS l B).length = B.length := by simp [rowS]
theorem blkS_len (A B : List Str) : (blkS A B).length = A.length * B.length := by
  induction A with
  | nil => simp [blkS]
  | cons a A ih =>
    have : blkS (a :: A) B = rowS a B ++ blkS A B := by simp [blkS]
    rw [this, List.length_append, ih, rowS_len, List.length_cons, Nat.add_mul]; omega
theorem preS_len_mono (ls : List (List Str)) (M : Nat) : ∀ {k k' : Nat}, k ≤ k' → (preS ls M k).length ≤ (preS ls M k').length
  | k, 0, h => by obtain rfl : k = 0 := by omega
                  exact Nat.le_refl _
  | k, k' + 1, h => by
    by_cases e : k = k' + 1
    · subst e; exact Nat.le_refl _
    · have := preS_len_mono ls M (k := k) (k' := k') (by omega)
      rw [preS_succ, List.length_append]; omega
theorem al_len : ∀ m, (al m).length = m + 1
  | 0 => rfl
  | m + 1 => by simp [al, al_len m]
theorem al_old {m k : Nat} (h : k ≤ m) : (al (m + 1)).getD k [] = (al m).getD k [] := by
  have := al_len m
  simp only [al, List.getD_eq_getElem?_getD]
  rw [List.getElem?_append_left (by omega)]
theorem al_new (m : Nat) : (al (m + 1)).getD (m + 1) [] = sortP (preS (al m) m (m + 1)) := by
  have := al_len m
  simp only [al, List.getD_eq_getElem?_getD]
  rw [List.getElem?_append_right (by omega), this]
  simp
/-- The trees with n forks, in ascending order. -/
def allS (n : Nat) : List Str := (al n).getD n []
theorem al_get : ∀ {m k : Nat}, k ≤ m → (al m).getD k [] = allS k
  | 0, k, h => by obtain rfl : k = 0 := by omega
                  rfl
  | m + 1, k, h => by
    by_cases e : k = m + 1
    · subst e; rfl
    · rw [al_old (by omega)]; exact al_get (by omega)
theorem allS_succ (m : Nat) : allS (m + 1) = sortP (preS (al m) m (m + 1)) := al_new m
theorem mem_preS {ls : List (List Str)} {M k : Nat} {s : Str} : s ∈ preS ls M k ↔ ∃ j, j < k ∧ ∃ l, l ∈ ls.getD j [] ∧ ∃ r, r ∈ ls.getD (M - j) [] ∧ s = [40] ++ l ++ r ++ [41] := by
  simp only [preS, blkS, rowS, List.mem_flatMap, List.mem_range, List.mem_map]
  constructor
  · rintro ⟨j, hj, l, hl, r, hr, rfl⟩; exact ⟨j, hj, l, hl, r, hr, rfl⟩
  · rintro ⟨j, hj, l, hl, r, hr, rfl⟩; exact ⟨j, hj, l, hl, r, hr, rfl⟩
theorem allS_mem : ∀ (n : Nat) (s : Str), s ∈ allS n ↔ ∃ t : T, s = t.text ∧ t.size = n := by
  intro n
  induction n using Nat.strongRecOn with
  | _ n ih =>
    intro s
    cases n with
    | zero =>
      show s ∈ [[46]] ↔ _
      rw [List.mem_singleton]
      constructor
      · rintro rfl; exact ⟨.lf, rfl, rfl⟩
      · rintro ⟨t, rfl, ht⟩
        cases t with
        | lf => rfl
        | nd l r => simp only [T.size] at ht; omega
    | succ m =>
      rw [allS_succ, sortP_mem, mem_preS]
      constructor
      · rintro ⟨j, hj, l, hl, r, hr, rfl⟩
        rw [al_get (by omega)] at hl hr
        obtain ⟨a, rfl, ha⟩ := (ih j (by omega) l).1 hl
        obtain ⟨b, rfl, hb⟩ := (ih (m - j) (by omega) r).1 hr
        exact ⟨.nd a b, rfl, by simp only [T.size]; omega⟩
      · rintro ⟨t, rfl, ht⟩
        cases t with
        | lf => simp [T.size] at ht
        | nd a b =>
          simp only [T.size] at ht
          refine ⟨a.size, by omega, a.text, ?_, b.text, ?_, rfl⟩
          · rw [al_get (by omega)]; exact (ih a.size (by omega) _).2 ⟨a, rfl, rfl⟩
          · rw [al_get (by omega)]; exact (ih (m - a.size) (by omega) _).2 ⟨b, rfl, by omega⟩
theorem allS_sorted : ∀ n, (allS n).Pairwise (· ≤ ·)
  | 0 => by show List.Pairwise _ [[46]]; simp
  | m + 1 => by rw [allS_succ]; exact sortP_sorted _
theorem allS_nodup : ∀ n, (allS n).Nodup := by
  intro n
  induction n using Nat.strongRecOn with
  | _ n ih =>
    cases n with
    | zero => show List.Nodup [[46]]; simp
    | succ m =>
      rw [allS_succ, (sortP_perm _).nodup_iff]
      have hinj : ∀ {j j' : Nat} {l r l' r' : Str}, l ∈ allS j → r ∈ allS (m - j) → l' ∈ allS j' → r' ∈ allS (m - j') → [40] ++ l ++ r ++ [41] = [40] ++ l' ++ r' ++ [41] → l = l' ∧ r = r' ∧ j = j' := by
        intro j j' l r l' r' hl hr hl' hr' e
        obtain ⟨a, rfl, ha⟩ := (allS_mem _ _).1 hl
        obtain ⟨b, rfl, hb⟩ := (allS_mem _ _).1 hr
        obtain ⟨a', rfl, ha'⟩ := (allS_mem _ _).1 hl'
        obtain ⟨b', rfl, hb'⟩ := (allS_mem _ _).1 hr'
        have : (T.nd a b).text = (T.nd a' b').text := e
        have := text_inj this
        cases this
        exact ⟨rfl, rfl, by omega⟩
      unfold List.Nodup preS blkS rowS
      rw [List.pairwise_flatMap]
      refine ⟨fun j hj => ?_, ?_⟩
      · rw [List.mem_range] at hj
        rw [al_get (by omega), al_get (by omega), List.pairwise_flatMap]
        refine ⟨fun l hl => ?_, ?_⟩
        · rw [List.pairwise_map]
          exact (ih (m - j) (by omega)).imp_of_mem fun hr hr' hne e => hne (hinj hl hr hl hr' e).2.1
        · refine (ih j (by omega)).imp_of_mem fun hl hl' hne x hx y hy e => ?_
          rw [List.mem_map] at hx hy
          obtain ⟨r, hr, rfl⟩ := hx
          obtain ⟨r', hr', rfl⟩ := hy
          exact hne (hinj hl hr hl' hr' e).1
      · refine List.nodup_range.imp_of_mem fun {j j'} hj hj' hne x hx y hy e => ?_
        rw [List.mem_range] at hj hj'
        rw [al_get (by omega), al_get (by omega)] at hx hy
        simp only [List.mem_flatMap, List.mem_map] at hx hy
        obtain ⟨l, hl, r, hr, rfl⟩ := hx
        obtain ⟨l', hl', r', hr', rfl⟩ := hy
        exact hne (hinj hl hr hl' hr' e).2.2
def cat : Nat → List Nat
  | 0 => [1]
  | m + 1 => cat m ++ [((List.range (m + 1)).map fun k => (cat m).getD k 0 * (cat m).getD (m - k) 0).sum]
theorem preS_len (ls : List (List Str)) (M : Nat) : ∀ k, (preS ls M k).length = ((List.range k).map fun k => (ls.getD k []).length * (ls.getD (M - k) []).length).sum
  | 0 => rfl
  | k + 1 => by rw [preS_succ, List.length_append, preS_len ls M k, blkS_len, List.range_succ]; simp
theorem getD_map_len (ls : List (List Str)) (k : Nat) : (ls.map List.length).getD k 0 = (ls.getD k []).length := by
  simp only [List.getD_eq_getElem?_getD, List.getElem?_map]
  cases ls[k]? <;> rfl
theorem al_cat : ∀ m, (al m).map List.length = cat m
  | 0 => rfl
  | m + 1 => by
    have ih := al_cat m
    simp only [al, cat, List.map_append, List.map_cons, List.map_nil, ih, sortP_len, preS_len]
    congr 3
    refine List.map_congr_left fun k _ => ?_
    rw [← ih, getD_map_len, getD_map_len]
theorem cat_bnd : ∀ n, n < 11 → (cat n).getD n 0 ≤ 16796 := by decide +kernel
theorem allS_len {n : Nat} (h : n ≤ 10) : (allS n).length ≤ 16796 := by
  have := cat_bnd n (by omega)
  rw [← al_cat, getD_map_len] at this
  exact this
theorem preS_bnd {m k : Nat} (hm : m + 1 ≤ 10) (hk : k ≤ m + 1) : (preS (al m) m k).length ≤ 16796 := by
  have h1 := preS_len_mono (al m) m hk
  have h2 := allS_len hm
  rw [allS_succ, sortP_len] at h2
  omega
theorem allS_text {n : Nat} {s : Str} (h : s ∈ allS n) : s.length = 3 * n + 1 := by
  obtain ⟨t, rfl, ht⟩ := (allS_mem _ _).1 h
  rw [T.text_len, ht]
theorem allS_lt {n i j : Nat} {a b : Str} (hij : i < j) (ha : (allS n)[i]? = some a) (hb : (allS n)[j]? = some b) : a < b := by
  have h1 := (List.getElem?_eq_some_iff.1 ha)
  have h2 := (List.getElem?_eq_some_iff.1 hb)
  obtain ⟨h1, rfl⟩ := h1
  obtain ⟨h2, rfl⟩ := h2
  have hle := List.pairwise_iff_getElem.1 (allS_sorted n) i j h1 h2 hij
  have hne := List.pairwise_iff_getElem.1 (allS_nodup n) i j h1 h2 hij
  exact Decidable.byContradiction fun h => hne (List.le_antisymm hle (List.not_lt.1 h))
end Go.Proofs.Ytkdakleckdkhiaa
