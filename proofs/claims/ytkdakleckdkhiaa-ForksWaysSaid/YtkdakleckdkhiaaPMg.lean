/- forks: merging two lists in order, plain. -/
import Derived.Test.YtkdakleckdkhiaaPAl
namespace Go.Proofs.Ytkdakleckdkhiaa
/-- X holds the first i of A and the first j of B, in order, none above what is left. -/
structure MI (A B : List Str) (i j : Nat) (X : List Str) : Prop where
  perm : X.Perm (A.take i ++ B.take j)
  sorted : X.Pairwise (· ≤ ·)
  left : ∀ x ∈ X, ∀ y ∈ A.drop i, x ≤ y
  right : ∀ x ∈ X, ∀ y ∈ B.drop j, x ≤ y
theorem MI.nil (A B : List Str) : MI A B 0 0 [] := ⟨by simp, by simp, by simp, by simp⟩
theorem MI.len {A B : List Str} {i j : Nat} {X : List Str} (h : MI A B i j X) (hi : i ≤ A.length) (hj : j ≤ B.length) : X.length = i + j := by
  rw [h.perm.length_eq, List.length_append, List.length_take, List.length_take]; omega
theorem drop_getD {A : List Str} {i : Nat} (h : i < A.length) : A.drop i = A.getD i [] :: A.drop (i + 1) := by
  rw [List.drop_eq_getElem_cons h]; simp [List.getD, h]
theorem take_getD {A : List Str} {i : Nat} (h : i < A.length) : A.take (i + 1) = A.take i ++ [A.getD i []] := by
  rw [List.take_succ_eq_append_getElem h]; simp [List.getD, h]
theorem srt_drop {A : List Str} (hA : A.Pairwise (· ≤ ·)) {i : Nat} (h : i < A.length) : ∀ y ∈ A.drop i, A.getD i [] ≤ y := by
  intro y hy
  have hp := hA.sublist (List.drop_sublist i A)
  rw [drop_getD h] at hp hy
  rcases List.mem_cons.1 hy with rfl | hy
  · exact List.le_refl _
  · exact (List.pairwise_cons.1 hp).1 y hy
theorem MI.swap {A B : List Str} {i j : Nat} {X : List Str} (h : MI A B i j X) : MI B A j i X := ⟨h.perm.trans List.perm_append_comm, h.sorted, h.right, h.left⟩
theorem MI.stepL {A B : List Str} {i j : Nat} {X : List Str} (hA : A.Pairwise (· ≤ ·)) (h : MI A B i j X) (hi : i < A.length) (hc : ∀ y ∈ B.drop j, A.getD i [] ≤ y) : MI A B (i + 1) j (X ++ [A.getD i []]) := by
  have hm : A.getD i [] ∈ A.drop i := by rw [drop_getD hi]; exact List.mem_cons_self
  refine ⟨?_, ?_, ?_, ?_⟩
  · rw [take_getD hi, List.append_assoc]
    have h1 : (X ++ [A.getD i []]).Perm ((A.take i ++ B.take j) ++ [A.getD i []]) := h.perm.append_right _
    refine h1.trans ?_
    rw [List.append_assoc]
    exact List.Perm.append_left _ List.perm_append_comm
  · rw [List.pairwise_append]
    refine ⟨h.sorted, by simp, fun a ha b hb => ?_⟩
    rw [List.mem_singleton] at hb
    subst hb
    exact h.left a ha _ hm
  · intro x hx y hy
    have hy' : y ∈ A.drop i := by rw [drop_getD hi]; exact List.mem_cons_of_mem _ hy
    rcases List.mem_append.1 hx with hx | hx
    · exact h.left x hx y hy'
    · rw [List.mem_singleton] at hx; subst hx; exact srt_drop hA hi y hy'
  · intro x hx y hy
    rcases List.mem_append.1 hx with hx | hx
    · exact h.right x hx y hy
    · rw [List.mem_singleton] at hx; subst hx; exact hc y hy
theorem MI.stepR {A B : List Str} {i j : Nat} {X : List Str} (hB : B.Pairwise (· ≤ ·)) (h : MI A B i j X) (hj : j < B.length) (hc : ∀ y ∈ A.drop i, B.getD j [] ≤ y) : MI A B i (j + 1) (X ++ [B.getD j []]) :=
  (h.swap.stepL hB hj hc).swap
theorem MI.fin {A B : List Str} {i j : Nat} {X : List Str} (h : MI A B i j X) (hi : i = A.length) (hj : j = B.length) : X.Perm (A ++ B) ∧ X.Pairwise (· ≤ ·) := by
  subst hi; subst hj
  have := h.perm
  rw [List.take_length, List.take_length] at this
  exact ⟨this, h.sorted⟩
theorem sortP_short {L : List Str} (h : L.length < 2) : L = sortP L := by
  refine sortP_eq (List.Perm.refl _) ?_
  match L, h with
  | [], _ => exact List.Pairwise.nil
  | [a], _ => simp
theorem sortP_halves {L X : List Str} {n : Nat} (h : X.Perm (sortP (L.take n) ++ sortP (L.drop n))) (hs : X.Pairwise (· ≤ ·)) : X = sortP L := by
  refine sortP_eq (h.trans ?_) hs
  have := (sortP_perm (L.take n)).append (sortP_perm (L.drop n))
  rwa [List.take_append_drop] at this
end Go.Proofs.Ytkdakleckdkhiaa
