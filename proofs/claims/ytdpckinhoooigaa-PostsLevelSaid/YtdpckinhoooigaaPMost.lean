/- Plain law: pairs and the lines that cover a table. No program in sight. -/
import Derived.Test.YtdpckinhoooigaaMMath
namespace Go.Proofs.Ytdpckinhoooigaa
namespace MM
/-- Pairs of a row and a column with positive numbers, no two with the same row or column. -/
def Prs (n : Nat) (A : Nat → Nat → Int) (ps : List (Nat × Nat)) : Prop :=
  (∀ x, x ∈ ps → x.1 < n ∧ x.2 < n ∧ A x.1 x.2 ≠ 0) ∧ ps.Pairwise (fun x y => x.1 ≠ y.1 ∧ x.2 ≠ y.2)
/-- Rows and columns that cover the positive numbers. -/
def Cov (n : Nat) (A : Nat → Nat → Int) (rs cs : List Nat) : Prop := ∀ i k, i < n → k < n → A i k ≠ 0 → i ∈ rs ∨ k ∈ cs
theorem prs_le_cov {n : Nat} {A : Nat → Nat → Int} {ps : List (Nat × Nat)} {rs cs : List Nat} (hp : Prs n A ps) (hc : Cov n A rs cs) : ps.length ≤ rs.length + cs.length := by
  have h1 : (ps.map fun x => if x.1 ∈ rs then 2 * x.1 else 2 * x.2 + 1).Nodup := by
    refine List.pairwise_map.2 (hp.2.imp fun h e => ?_)
    split at e <;> split at e <;> omega
  have h2 := nodup_len (b := rs.map (fun r => 2 * r) ++ cs.map (fun c => 2 * c + 1)) h1 fun y hy => by
    obtain ⟨x, hx, rfl⟩ := List.mem_map.1 hy
    obtain ⟨a, b, c⟩ := hp.1 x hx
    rcases hc x.1 x.2 a b c with h | h
    · simp only [h, if_true, List.mem_append, List.mem_map]; exact .inl ⟨_, h, rfl⟩
    · split
      · rename_i h'; simp only [List.mem_append, List.mem_map]; exact .inl ⟨_, h', rfl⟩
      · simp only [List.mem_append, List.mem_map]; exact .inr ⟨_, h, rfl⟩
  simpa using h2
/-- The greatest number of pairs. -/
def IsMost (n : Nat) (A : Nat → Nat → Int) (m : Nat) : Prop := ∃ ps rs cs, Prs n A ps ∧ Cov n A rs cs ∧ ps.length = m ∧ rs.length + cs.length = m
section
variable {n m m' : Nat} {A B : Nat → Nat → Int}
theorem IsMost.mono (h : IsMost n A m) (h' : IsMost n B m') (hAB : ∀ i k, i < n → k < n → A i k ≠ 0 → B i k ≠ 0) : m ≤ m' := by
  obtain ⟨ps, _, _, h1, _, h3, _⟩ := h
  obtain ⟨_, rs, cs, _, g2, _, g4⟩ := h'
  have := prs_le_cov (A := B) ⟨fun x hx => by obtain ⟨a, b, c⟩ := h1.1 x hx; exact ⟨a, b, hAB _ _ a b c⟩, h1.2⟩ g2
  omega
theorem IsMost.more {r : Nat} (h : IsMost n A m) (h' : IsMost n B m') (hAB : ∀ i k, i < n → k < n → B i k ≠ 0 → A i k ≠ 0 ∨ i = r) : m' ≤ m + 1 := by
  obtain ⟨_, rs, cs, _, h2, _, h4⟩ := h
  obtain ⟨ps, _, _, g1, _, g3, _⟩ := h'
  have := prs_le_cov (rs := r :: rs) (cs := cs) g1 fun i k hi hk hb => by
    rcases hAB i k hi hk hb with h | h
    · rcases h2 i k hi hk h with h | h
      · exact .inl (List.mem_cons_of_mem _ h)
      · exact .inr h
    · subst h; exact .inl List.mem_cons_self
  simp only [List.length_cons] at this
  omega
theorem IsMost.turn (h : IsMost n A m) : IsMost n (fun i k => A k i) m := by
  obtain ⟨ps, rs, cs, h1, h2, h3, h4⟩ := h
  refine ⟨ps.map fun x => (x.2, x.1), cs, rs, ⟨fun x hx => ?_, List.pairwise_map.2 (h1.2.imp fun h => ⟨h.2, h.1⟩)⟩, fun i k hi hk h => (h2 k i hk hi h).symm, by simpa using h3, by omega⟩
  obtain ⟨y, hy, rfl⟩ := List.mem_map.1 hx
  obtain ⟨a, b, c⟩ := h1.1 y hy
  exact ⟨b, a, c⟩
theorem IsMost.unique (h : IsMost n A m) (h' : IsMost n A m') : m = m' := Nat.le_antisymm (h.mono h' fun _ _ _ _ h => h) (h'.mono h fun _ _ _ _ h => h)
theorem IsMost.congr (h : IsMost n A m) (hAB : ∀ i k, i < n → k < n → A i k = B i k) : IsMost n B m := by
  obtain ⟨ps, rs, cs, h1, h2, h3, h4⟩ := h
  exact ⟨ps, rs, cs, ⟨fun x hx => by obtain ⟨a, b, c⟩ := h1.1 x hx; exact ⟨a, b, by rw [← hAB _ _ a b]; exact c⟩, h1.2⟩, fun i k hi hk h => h2 i k hi hk (by rw [hAB i k hi hk]; exact h), h3, h4⟩
end
section
variable {n : Nat} {A : Nat → Nat → Int} {R C : Nat → Int}
/-- The pairs of a matching, in the order of the rows. -/
def mpairs (C : Nat → Int) (n : Nat) : List (Nat × Nat) := ((List.range n).filter fun r => decide (0 ≤ C r)).map fun r => (r, (C r).toNat)
theorem mpairs_prs (h : Inv n A R C) : Prs n A (mpairs C n) := by
  have key : ∀ r, r < n → 0 ≤ C r → ∃ c : Nat, C r = c ∧ c < n ∧ R c = r ∧ A r c ≠ 0 := fun r hr h0 => by
    obtain ⟨c, h1, h2, h3⟩ := h.2 r hr h0
    obtain ⟨q, g1, g2, g3, g4⟩ := h.1 c h2 (by omega)
    have : q = r := by omega
    subst this
    exact ⟨c, h1, h2, h3, g4⟩
  refine ⟨fun x hx => ?_, List.pairwise_map.2 (List.Pairwise.imp_of_mem ?_ (List.nodup_range.sublist List.filter_sublist))⟩
  · simp only [mpairs, List.mem_map, List.mem_filter, List.mem_range, decide_eq_true_eq] at hx
    obtain ⟨r, ⟨hr, h0⟩, rfl⟩ := hx
    obtain ⟨c, h1, h2, h3, h4⟩ := key r hr h0
    simp only [h1, Int.toNat_natCast]
    exact ⟨hr, h2, h4⟩
  · intro a b ha hb hne
    simp only [List.mem_filter, List.mem_range, decide_eq_true_eq] at ha hb
    obtain ⟨c, h1, h2, h3, h4⟩ := key a ha.1 ha.2
    obtain ⟨d, g1, g2, g3, g4⟩ := key b hb.1 hb.2
    refine ⟨hne, fun e => hne ?_⟩
    simp only at e
    have : c = d := by omega
    subst this; omega
open Classical in
/-- Rows that a search can't leave: the lines that cover. -/
theorem most_count (h : Inv n A R C) {S : Nat → Prop} [DecidablePred S] (hfree : ∀ r, r < n → C r < 0 → S r) :
    ((List.range n).filter fun r => decide (¬ S r)).length + ((List.range n).filter fun c => decide (0 ≤ R c ∧ S (R c).toNat)).length = (mpairs C n).length := by
  have e1 : ((List.range n).filter fun c => decide (0 ≤ R c ∧ S (R c).toNat)).length = ((List.range n).filter fun r => decide (0 ≤ C r ∧ S r)).length := by
    have hn : ∀ p : Nat → Bool, ((List.range n).filter p).Nodup := fun p => List.nodup_range.sublist List.filter_sublist
    have a1 : (((List.range n).filter fun c => decide (0 ≤ R c ∧ S (R c).toNat)).map fun c => (R c).toNat).Nodup := nodup_map (hn _) fun x y hx hy e => by
      simp only [List.mem_filter, List.mem_range, decide_eq_true_eq] at hx hy
      obtain ⟨q, g1, g2, g3, g4⟩ := h.1 x hx.1 hx.2.1
      obtain ⟨q', k1, k2, k3, k4⟩ := h.1 y hy.1 hy.2.1
      have : q = q' := by omega
      subst this; omega
    have a2 : (((List.range n).filter fun r => decide (0 ≤ C r ∧ S r)).map fun r => (C r).toNat).Nodup := nodup_map (hn _) fun x y hx hy e => by
      simp only [List.mem_filter, List.mem_range, decide_eq_true_eq] at hx hy
      obtain ⟨q, g1, g2, g3⟩ := h.2 x hx.1 hx.2.1
      obtain ⟨q', k1, k2, k3⟩ := h.2 y hy.1 hy.2.1
      have : q = q' := by omega
      subst this; omega
    have b1 := nodup_len (b := (List.range n).filter fun r => decide (0 ≤ C r ∧ S r)) a1 fun y hy => by
      obtain ⟨c, hc, rfl⟩ := List.mem_map.1 hy
      simp only [List.mem_filter, List.mem_range, decide_eq_true_eq] at hc ⊢
      obtain ⟨q, g1, g2, g3, g4⟩ := h.1 c hc.1 hc.2.1
      have h5 := hc.2.2
      rw [g1, Int.toNat_natCast] at h5 ⊢
      exact ⟨g2, by omega, h5⟩
    have b2 := nodup_len (b := (List.range n).filter fun c => decide (0 ≤ R c ∧ S (R c).toNat)) a2 fun y hy => by
      obtain ⟨r, hr, rfl⟩ := List.mem_map.1 hy
      simp only [List.mem_filter, List.mem_range, decide_eq_true_eq] at hr ⊢
      obtain ⟨q, g1, g2, g3⟩ := h.2 r hr.1 hr.2.1
      have h5 := hr.2.2
      rw [g1, Int.toNat_natCast]
      rw [g3, Int.toNat_natCast]
      exact ⟨g2, by omega, h5⟩
    simp only [List.length_map] at b1 b2
    omega
  rw [e1]
  unfold mpairs
  rw [List.length_map]
  have : ∀ l : List Nat, (∀ r, r ∈ l → r < n) → (l.filter fun r => decide (¬ S r)).length + (l.filter fun r => decide (0 ≤ C r ∧ S r)).length = (l.filter fun r => decide (0 ≤ C r)).length := by
    intro l
    induction l with
    | nil => intro _; rfl
    | cons a l ih =>
      intro hl
      have ih := ih fun r hr => hl r (List.mem_cons_of_mem _ hr)
      have ha := hfree a (hl a List.mem_cons_self)
      grind
  exact this _ fun r hr => by simpa using hr
theorem most_cov {S : Nat → Prop} (hS : Closed n A R S) [DecidablePred S] : Cov n A ((List.range n).filter fun r => decide (¬ S r)) ((List.range n).filter fun c => decide (0 ≤ R c ∧ S (R c).toNat)) := by
  intro i k hi hk hA
  simp only [List.mem_filter, List.mem_range, decide_eq_true_eq]
  by_cases hs : S i
  · obtain ⟨o, h1, h2⟩ := hS i hi hs k hk hA
    right
    rw [h1, Int.toNat_natCast]
    exact ⟨hk, by omega, h2⟩
  · exact .inl ⟨hi, hs⟩
end
end MM
end Go.Proofs.Ytdpckinhoooigaa
