/- Plain law: all possible choices in lexicographic order, counted and looked up. No program in sight. -/
import Derived.Test.YtdpckinhoooigaaPMath3
import Derived.Test.YtdpckinhoooigaaPMost
namespace Go.Proofs.Ytdpckinhoooigaa
namespace PM
open MM
/-- The possible choices for these rows of exactly these columns, in lexicographic order if the columns ascend. -/
def chs (A : Nat → Nat → Int) : List Nat → List Nat → List (List Nat)
  | [], C => if C = [] then [[]] else []
  | r :: rs, C => C.flatMap fun c => if A r c = 0 then [] else (chs A rs (C.erase c)).map (c :: ·)
def one (A : Nat → Nat → Int) (r c : Nat) : Int := if A r c = 0 then 0 else 1
theorem chs_length (A : Nat → Nat → Int) : ∀ R C : List Nat, ((chs A R C).length : Int) = pL (R.map (one A)) C
  | [], C => by simp only [chs, List.map_nil, pL]; split <;> rfl
  | r :: rs, C => by
    simp only [chs, List.map_cons, pL]
    have : ∀ D : List Nat, ((D.flatMap fun c => if A r c = 0 then [] else (chs A rs (C.erase c)).map (c :: ·)).length : Int) = sumL D fun c => one A r c * pL (rs.map (one A)) (C.erase c) := by
      intro D
      induction D with
      | nil => rfl
      | cons d D ih =>
        rw [List.flatMap_cons, List.length_append, sumL_cons, Int.natCast_add, ih]
        congr 1
        unfold one
        split
        · simp
        · rw [List.length_map, chs_length A rs, Int.one_mul]; rfl
    exact this C
def good (A : Nat → Nat → Int) : List Nat → List Nat → Prop
  | [], [] => True
  | r :: rs, c :: cs => A r c ≠ 0 ∧ good A rs cs
  | _, _ => False
theorem good_length {A : Nat → Nat → Int} : ∀ {R l : List Nat}, good A R l → l.length = R.length
  | [], [], _ => rfl
  | r :: rs, c :: cs, h => by simp only [List.length_cons]; rw [good_length h.2]
  | [], _ :: _, h => h.elim
  | _ :: _, [], h => h.elim
theorem mem_chs {A : Nat → Nat → Int} : ∀ {R C l : List Nat}, l ∈ chs A R C ↔ good A R l ∧ l.Perm C
  | [], C, l => by
    simp only [chs]
    split
    · rename_i e; subst e
      simp only [List.mem_singleton, List.perm_nil]
      exact ⟨fun h => by subst h; exact ⟨trivial, rfl⟩, fun h => h.2⟩
    · rename_i e
      simp only [List.not_mem_nil, false_iff, not_and]
      intro h hp
      cases l with
      | nil => exact e (List.nil_perm.1 hp)
      | cons c cs => exact h
  | r :: rs, C, l => by
    simp only [chs, List.mem_flatMap]
    constructor
    · rintro ⟨c, hc, h⟩
      split at h
      · cases h
      · rename_i hA
        obtain ⟨l', h', rfl⟩ := List.mem_map.1 h
        obtain ⟨h1, h2⟩ := mem_chs.1 h'
        exact ⟨⟨hA, h1⟩, List.cons_perm_iff_perm_erase.2 ⟨hc, h2⟩⟩
    · rintro ⟨h1, h2⟩
      cases l with
      | nil => exact h1.elim
      | cons c cs =>
        obtain ⟨h3, h4⟩ := List.cons_perm_iff_perm_erase.1 h2
        refine ⟨c, h3, ?_⟩
        rw [if_neg h1.1]
        exact List.mem_map_of_mem (mem_chs.2 ⟨h1.2, h4⟩)
/-- Lexicographically smaller. -/
def lxl : List Nat → List Nat → Prop
  | a :: xs, b :: ys => a < b ∨ (a = b ∧ lxl xs ys)
  | _, _ => False
theorem lxl_at : ∀ {a b : List Nat}, lxl a b → ∃ k, k < a.length ∧ k < b.length ∧ (∀ j, j < k → a.getD j 0 = b.getD j 0) ∧ a.getD k 0 < b.getD k 0
  | a :: xs, b :: ys, h => by
    rcases h with h | ⟨rfl, h⟩
    · exact ⟨0, by simp, by simp, by simp, by simpa using h⟩
    · obtain ⟨k, h1, h2, h3, h4⟩ := lxl_at h
      refine ⟨k + 1, by simpa using h1, by simpa using h2, fun j hj => ?_, by simpa using h4⟩
      cases j with
      | zero => rfl
      | succ j => simpa using h3 j (by omega)
  | [], _, h => h.elim
  | _ :: _, [], h => h.elim
theorem chs_sorted (A : Nat → Nat → Int) : ∀ (R C : List Nat), C.Pairwise (· < ·) → (chs A R C).Pairwise lxl
  | [], C, _ => by simp only [chs]; split <;> simp
  | r :: rs, C, hC => by
    simp only [chs]
    rw [List.pairwise_flatMap]
    refine ⟨fun c _ => ?_, hC.imp fun {a b} hab x hx y hy => ?_⟩
    · split
      · exact List.Pairwise.nil
      · exact List.pairwise_map.2 ((chs_sorted A rs (C.erase c) (hC.sublist List.erase_sublist)).imp fun h => .inr ⟨rfl, h⟩)
    · split at hx
      · cases hx
      · split at hy
        · cases hy
        · obtain ⟨x', _, rfl⟩ := List.mem_map.1 hx
          obtain ⟨y', _, rfl⟩ := List.mem_map.1 hy
          exact .inl hab
theorem good_range {A : Nat → Nat → Int} : ∀ {n i : Nat} {l : List Nat}, good A (List.range' i n) l ↔ l.length = n ∧ ∀ k, k < n → A (i + k) (l.getD k 0) ≠ 0
  | 0, i, l => by
    cases l with
    | nil => simp [good]
    | cons c cs => simp [good]
  | n + 1, i, l => by
    cases l with
    | nil => simp [good, List.range'_succ]
    | cons c cs =>
      simp only [good, List.range'_succ, good_range (n := n), List.length_cons, Nat.add_right_cancel_iff]
      constructor
      · rintro ⟨h1, h2, h3⟩
        refine ⟨h2, fun k hk => ?_⟩
        cases k with
        | zero => simpa using h1
        | succ k => have := h3 k (by omega); rw [show i + (k + 1) = i + 1 + k by omega]; simpa using this
      · rintro ⟨h1, h2⟩
        refine ⟨by simpa using h2 0 (by omega), h1, fun k hk => ?_⟩
        have := h2 (k + 1) (by omega)
        rw [show i + (k + 1) = i + 1 + k by omega] at this
        simpa using this
/-- All of them. -/
def allC (A : Nat → Nat → Int) (n : Nat) : List (List Nat) := chs A (List.range n) (List.range n)
theorem perm_range {n : Nat} {l : List Nat} : l.Perm (List.range n) ↔ l.length = n ∧ (∀ k, k < n → l.getD k 0 < n) ∧ ∀ j k, j < k → k < n → l.getD j 0 ≠ l.getD k 0 := by
  constructor
  · intro h
    have hl : l.length = n := by simpa using h.length_eq
    refine ⟨hl, fun k hk => ?_, fun j k hj hk e => ?_⟩
    · have : l.getD k 0 ∈ l := by grind
      simpa using h.mem_iff.1 this
    · have hn : l.Nodup := h.nodup_iff.2 List.nodup_range
      have := List.pairwise_iff_getElem.1 hn j k (by omega) (by omega) hj
      apply this
      grind
  · rintro ⟨h1, h2, h3⟩
    have hn : l.Nodup := List.pairwise_iff_getElem.2 fun j k hj hk hjk => by have := h3 j k hjk (by omega); grind
    have hsub : ∀ x, x ∈ l → x ∈ List.range n := fun x hx => by
      obtain ⟨k, hk, rfl⟩ := List.getElem_of_mem hx
      have := h2 k (by omega); grind
    rw [List.perm_ext_iff_of_nodup hn List.nodup_range]
    intro a
    refine ⟨hsub a, fun ha => Classical.byContradiction fun hna => ?_⟩
    have h4 := nodup_len (a := a :: l) (b := List.range n) (List.nodup_cons.2 ⟨hna, hn⟩) fun x hx => by
      rcases List.mem_cons.1 hx with rfl | hx
      · exact ha
      · exact hsub x hx
    simp at h4; omega
theorem mem_all {A : Nat → Nat → Int} {n : Nat} {l : List Nat} : l ∈ allC A n ↔ l.length = n ∧ Choice n A fun k => l.getD k 0 := by
  unfold allC
  rw [mem_chs, List.range_eq_range', good_range, ← List.range_eq_range', perm_range]
  constructor
  · rintro ⟨⟨h1, h2⟩, _, h3, h4⟩
    exact ⟨h1, fun r hr => ⟨h3 r hr, by have := h2 r hr; rwa [Nat.zero_add] at this⟩, h4⟩
  · rintro ⟨h1, h2, h3⟩
    exact ⟨⟨h1, fun k hk => by rw [Nat.zero_add]; exact (h2 k hk).2⟩, h1, fun k hk => (h2 k hk).1, h3⟩
theorem choice_all {A : Nat → Nat → Int} {n : Nat} {p : Nat → Nat} (h : Choice n A p) : (List.range n).map p ∈ allC A n := by
  have e : ∀ k, k < n → ((List.range n).map p).getD k 0 = p k := fun k hk => by simp [List.getD, hk]
  refine mem_all.2 ⟨by simp, fun r hr => ?_, fun r r' h1 h2 => ?_⟩
  · show ((List.range n).map p).getD r 0 < n ∧ A r (((List.range n).map p).getD r 0) ≠ 0
    rw [e r hr]; exact h.1 r hr
  · show ((List.range n).map p).getD r 0 ≠ ((List.range n).map p).getD r' 0
    rw [e r (by omega), e r' h2]; exact h.2 r r' h1 h2
theorem all_iff {A : Nat → Nat → Int} {n : Nat} : (∃ p, Choice n A p) ↔ allC A n ≠ [] :=
  ⟨fun ⟨p, hp⟩ e => (by have := choice_all hp; rw [e] at this; cases this), fun h => by
    obtain ⟨l, hl⟩ := List.exists_mem_of_ne_nil _ h
    exact ⟨_, (mem_all.1 hl).2⟩⟩
theorem all_sorted (A : Nat → Nat → Int) (n : Nat) : (allC A n).Pairwise lxl := chs_sorted A _ _ List.pairwise_lt_range
/-- The first choice is the first one. -/
theorem first_all {A : Nat → Nat → Int} {n : Nat} {p : Nat → Nat} (h : First n A p) : (allC A n)[0]? = some ((List.range n).map p) := by
  have hm := choice_all h.1
  have hs := all_sorted A n
  have hmem : ∀ l, l ∈ allC A n → l.length = n ∧ Choice n A fun k => l.getD k 0 := fun l hl => mem_all.1 hl
  cases hL : allC A n with
  | nil => rw [hL] at hm; cases hm
  | cons a r =>
    rw [hL] at hm hs hmem
    rcases List.mem_cons.1 hm with e | hm
    · rw [e]; rfl
    · exfalso
      obtain ⟨k, h1, h2, h3, h4⟩ := lxl_at ((List.pairwise_cons.1 hs).1 _ hm)
      have ha := hmem a List.mem_cons_self
      have e : ∀ k, k < n → ((List.range n).map p).getD k 0 = p k := fun k hk => by simp [List.getD, hk]
      have := h.2 _ ha.2 k (by omega) fun j hj => by
        show a.getD j 0 = p j
        rw [h3 j hj, e j (by omega)]
      rw [e k (by omega)] at h4
      have : p k ≤ a.getD k 0 := this
      omega
/-- The permanent is positive exactly if there is one. -/
theorem pL_pos {A : Nat → Nat → Int} : ∀ (R C : List Nat), (∀ r, r ∈ R → ∀ c, c ∈ C → 0 ≤ A r c) → 0 ≤ pL (R.map A) C ∧ (0 < pL (R.map A) C ↔ chs A R C ≠ [])
  | [], C, _ => by simp only [List.map_nil, pL, chs]; split <;> simp
  | r :: rs, C, h => by
    simp only [List.map_cons, pL, chs]
    have hC : ∀ c, c ∈ C → 0 ≤ A r c := h r List.mem_cons_self
    have ih : ∀ c, c ∈ C → 0 ≤ pL (rs.map A) (C.erase c) ∧ (0 < pL (rs.map A) (C.erase c) ↔ chs A rs (C.erase c) ≠ []) := fun c _ =>
      pL_pos rs (C.erase c) fun r' hr' c' hc' => h r' (List.mem_cons_of_mem _ hr') c' (List.mem_of_mem_erase hc')
    have : ∀ D : List Nat, (∀ c, c ∈ D → c ∈ C) → 0 ≤ sumL D (fun c => A r c * pL (rs.map A) (C.erase c)) ∧
        (0 < sumL D (fun c => A r c * pL (rs.map A) (C.erase c)) ↔ (D.flatMap fun c => if A r c = 0 then [] else (chs A rs (C.erase c)).map (c :: ·)) ≠ []) := by
      intro D
      induction D with
      | nil => intro _; simp [sumL]
      | cons d D ihD =>
        intro hD
        have h1 := ihD fun c hc => hD c (List.mem_cons_of_mem _ hc)
        have hd := hD d List.mem_cons_self
        have h2 := ih d hd
        have h3 := hC d hd
        rw [sumL_cons, List.flatMap_cons]
        have h4 : 0 ≤ A r d * pL (rs.map A) (C.erase d) := Int.mul_nonneg h3 h2.1
        refine ⟨by omega, ?_⟩
        have h5 : 0 < A r d * pL (rs.map A) (C.erase d) ↔ (if A r d = 0 then [] else (chs A rs (C.erase d)).map (d :: ·)) ≠ [] := by
          split
          · rename_i e; simp [e]
          · rename_i e
            have h6 : 0 < A r d := by omega
            rw [ne_eq, List.map_eq_nil_iff, ← ne_eq, ← h2.2]
            by_cases e8 : pL (rs.map A) (C.erase d) = 0
            · rw [e8]; simp
            · have : 0 < pL (rs.map A) (C.erase d) := by omega
              exact ⟨fun _ => this, fun _ => Int.mul_pos h6 this⟩
        rw [ne_eq, List.append_eq_nil_iff, Classical.not_and_iff_not_or_not, ← ne_eq, ← ne_eq, ← h5, ← h1.2]
        omega
    exact this C fun _ h => h
theorem per_pos {A : Nat → Nat → Int} {n : Nat} (h : ∀ r c, r < n → c < n → 0 ≤ A r c) : 0 < per A n ↔ ∃ p, Choice n A p := by
  rw [all_iff]
  exact (pL_pos (List.range n) (List.range n) fun r hr c hc => h r c (by simpa using hr) (by simpa using hc)).2
end PM
end Go.Proofs.Ytdpckinhoooigaa
