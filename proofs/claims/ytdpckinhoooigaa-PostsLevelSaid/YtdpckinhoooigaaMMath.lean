/- Plain law: matchings of rows and columns. No program in sight. -/
import Derived.Test.YtdpckinhoooigaaRows
namespace Go.Proofs.Ytdpckinhoooigaa
namespace MM
/-- Rows have columns and columns have rows, the same pairs, with positive numbers. -/
def Inv (n : Nat) (A : Nat → Nat → Int) (R C : Nat → Int) : Prop :=
  (∀ c, c < n → 0 ≤ R c → ∃ q : Nat, R c = q ∧ q < n ∧ C q = c ∧ A q c ≠ 0) ∧
  (∀ q, q < n → 0 ≤ C q → ∃ c : Nat, C q = c ∧ c < n ∧ R c = q)
/-- A set of rows that search can't leave. -/
def Closed (n : Nat) (A : Nat → Nat → Int) (R : Nat → Int) (S : Nat → Prop) : Prop :=
  ∀ q, q < n → S q → ∀ c, c < n → A q c ≠ 0 → ∃ o : Nat, R c = o ∧ S o
/-- What a search that found a column for row r has changed. -/
structure Succ (n : Nat) (A : Nat → Nat → Int) (R C : Nat → Int) (r : Nat) (rc : Nat → Prop) (R' C' : Nat → Int) : Prop where
  got : ∃ c : Nat, c < n ∧ C' r = c ∧ A r c ≠ 0 ∧ C r ≠ c
  a : ∀ c : Nat, c < n → C r ≠ c → 0 ≤ R' c → ∃ q : Nat, R' c = q ∧ q < n ∧ C' q = c ∧ A q c ≠ 0
  b : ∀ q, q < n → 0 ≤ C' q → ∃ c : Nat, C' q = c ∧ c < n ∧ R' c = q
  c : ∀ c : Nat, c < n → C r = c → R' c = R c
  d : ∀ q, q < n → q ≠ r → (0 ≤ C' q ↔ 0 ≤ C q)
  e1 : ∀ c, c < n → ∀ q : Nat, R c = q → rc q → R' c = q
  e2 : ∀ q, q < n → rc q → C' q = C q
  f : ∀ S, Closed n A R S → ¬ S r ∧ ∀ c, c < n → ∀ q : Nat, R c = q → S q → R' c = q
  g : ∀ q, q < n → C' q < 0 → C' q = C q
section
variable {n : Nat} {A : Nat → Nat → Int} {R C R' C' : Nat → Int} {r c : Nat} {rc rc1 : Nat → Prop}
def upd (f : Nat → Int) (i : Nat) (a : Int) : Nat → Int := fun j => if j = i then a else f j
theorem Succ.base (h : Inv n A R C) (hr : r < n) (hc : c < n) (hA : A r c ≠ 0) (hf : R c < 0) (hrc : ¬ rc r) : Succ n A R C r rc (upd R c r) (upd C r c) where
  got := ⟨c, hc, by simp [upd], hA, fun e => by
    obtain ⟨c', h1, h2, h3⟩ := h.2 r hr (by omega)
    have : c' = c := by omega
    subst this; omega⟩
  a c' hc' hne h0 := by
    unfold upd at *
    by_cases e : c' = c
    · subst e; exact ⟨r, by simp, hr, by simp, hA⟩
    · simp only [if_neg e] at h0 ⊢
      obtain ⟨q, h1, h2, h3, h4⟩ := h.1 c' hc' h0
      have : q ≠ r := by rintro rfl; exact hne h3
      exact ⟨q, h1, h2, by simp [this, h3], h4⟩
  b q hq h0 := by
    unfold upd at *
    by_cases e : q = r
    · subst e; exact ⟨c, by simp, hc, by simp⟩
    · simp only [if_neg e] at h0 ⊢
      obtain ⟨c', h1, h2, h3⟩ := h.2 q hq h0
      have : c' ≠ c := by rintro rfl; omega
      exact ⟨c', h1, h2, by simp [this, h3]⟩
  c c' hc' he := by
    unfold upd
    by_cases e : c' = c
    · subst e
      obtain ⟨c'', h1, h2, h3⟩ := h.2 r hr (by omega)
      have : c'' = c' := by omega
      subst this; omega
    · simp [e]
  d q hq hne := by simp [upd, hne]
  e1 c' hc' q hq hrq := by
    unfold upd
    by_cases e : c' = c
    · subst e; omega
    · simp [e, hq]
  e2 q hq hrq := by
    unfold upd
    have : q ≠ r := by rintro rfl; exact hrc hrq
    simp [this]
  f S hS := by
    refine ⟨fun hr' => ?_, fun c' hc' q hq hSq => ?_⟩
    · obtain ⟨o, h1, _⟩ := hS r hr hr' c hc hA; omega
    · unfold upd
      by_cases e : c' = c
      · subst e; omega
      · simp [e, hq]
  g q hq h0 := by
    unfold upd at *
    by_cases e : q = r
    · subst e; simp only [if_true] at h0; omega
    · simp only [if_neg e]
theorem Succ.step {o : Nat} (h : Inv n A R C) (hr : r < n) (hc : c < n) (hA : A r c ≠ 0) (ho : R c = o) (hsub : ∀ q, rc q → rc1 q) (hr1 : rc1 r) (hrc : ¬ rc r) (ho1 : ¬ rc1 o)
    (hs : Succ n A R C o rc1 R' C') : Succ n A R C r rc (upd R' c r) (upd C' r c) := by
  obtain ⟨q0, hq0, hon, hCo, hAo⟩ := h.1 c hc (by omega)
  have hq0o : q0 = o := by omega
  subst hq0o
  have hor : q0 ≠ r := by rintro rfl; exact ho1 hr1
  have hCr : C' r = C r := hs.e2 r hr hr1
  refine ⟨⟨c, hc, by simp [upd], hA, fun e => ?_⟩, ?_, ?_, ?_, ?_, ?_, ?_, ?_, ?_⟩
  · obtain ⟨c', h1, h2, h3⟩ := h.2 r hr (by omega)
    have : c' = c := by omega
    subst this; omega
  · intro c' hc' hne h0
    unfold upd at *
    by_cases e : c' = c
    · subst e; exact ⟨r, by simp, hr, by simp, hA⟩
    · simp only [if_neg e] at h0 ⊢
      obtain ⟨q, h1, h2, h3, h4⟩ := hs.a c' hc' (by omega) h0
      have : q ≠ r := by rintro rfl; rw [hCr] at h3; exact hne h3
      exact ⟨q, h1, h2, by simp [this, h3], h4⟩
  · intro q hq h0
    unfold upd at *
    by_cases e : q = r
    · subst e; exact ⟨c, by simp, hc, by simp⟩
    · simp only [if_neg e] at h0 ⊢
      obtain ⟨c', h1, h2, h3⟩ := hs.b q hq h0
      have : c' ≠ c := by
        rintro rfl
        have h5 := hs.c c' hc hCo
        have : q = q0 := by omega
        subst this
        obtain ⟨c2, _, h6, _, h7⟩ := hs.got
        have : c2 = c' := by omega
        subst this; exact h7 hCo
      exact ⟨c', h1, h2, by simp [this, h3]⟩
  · intro c' hc' he
    unfold upd
    obtain ⟨c2, h1, h2, h3⟩ := h.2 r hr (by omega)
    have : c2 = c' := by omega
    subst this
    have hcc : c2 ≠ c := by rintro rfl; omega
    simp only [if_neg hcc]
    rw [hs.e1 c2 hc' r h3 hr1, h3]
  · intro q hq hne
    simp only [upd, if_neg hne]
    by_cases e : q = q0
    · subst e
      obtain ⟨c2, _, h6, _⟩ := hs.got
      constructor
      · intro _; omega
      · intro _; omega
    · exact hs.d q hq e
  · intro c' hc' q hq hrq
    unfold upd
    by_cases e : c' = c
    · subst e
      have : q = q0 := by omega
      subst this; exact absurd (hsub _ hrq) ho1
    · simp only [if_neg e]; exact hs.e1 c' hc' q hq (hsub _ hrq)
  · intro q hq hrq
    unfold upd
    have : q ≠ r := by rintro rfl; exact hrc hrq
    simp only [if_neg this]
    exact hs.e2 q hq (hsub _ hrq)
  · intro S hS
    have hf := hs.f S hS
    refine ⟨fun hr' => ?_, fun c' hc' q hq hSq => ?_⟩
    · obtain ⟨o', h1, h2⟩ := hS r hr hr' c hc hA
      have : o' = q0 := by omega
      subst this; exact hf.1 h2
    · unfold upd
      by_cases e : c' = c
      · subst e
        have : q = q0 := by omega
        subst this; exact absurd hSq hf.1
      · simp only [if_neg e]; exact hf.2 c' hc' q hq hSq
  · intro q hq h0
    unfold upd at *
    by_cases e : q = r
    · subst e; simp only [if_true] at h0; omega
    · simp only [if_neg e] at h0 ⊢; exact hs.g q hq h0
/-- At the top: r had no column. -/
theorem Succ.inv (hs : Succ n A R C r rc R' C') (hr : C r < 0) : Inv n A R' C' :=
  ⟨fun c hc h0 => hs.a c hc (by omega) h0, hs.b⟩
theorem Succ.closed (hs : Succ n A R C r rc R' C') {S : Nat → Prop} (hS : Closed n A R S) : Closed n A R' S := by
  intro q hq hSq c hc hA
  obtain ⟨o, h1, h2⟩ := hS q hq hSq c hc hA
  exact ⟨o, (hs.f S hS).2 c hc o h1 h2, h2⟩
/-- What a matching is that no search can extend. -/
def Greatest (n : Nat) (A : Nat → Nat → Int) (R C : Nat → Int) : Prop :=
  Inv n A R C ∧ ∀ r, r < n → C r < 0 → ∃ S, Closed n A R S ∧ S r
end
/-- A possible choice: a column for each row, no two the same. -/
def Choice (n : Nat) (A : Nat → Nat → Int) (p : Nat → Nat) : Prop := (∀ r, r < n → p r < n ∧ A r (p r) ≠ 0) ∧ ∀ r r', r < r' → r' < n → p r ≠ p r'
theorem Choice.inj {n : Nat} {A : Nat → Nat → Int} {p : Nat → Nat} (h : Choice n A p) {r r' : Nat} (hr : r < n) (hr' : r' < n) (e : p r = p r') : r = r' := by
  rcases Nat.lt_trichotomy r r' with h1 | h1 | h1
  · exact absurd e (h.2 r r' h1 hr')
  · exact h1
  · exact absurd e.symm (h.2 r' r h1 hr)
theorem nodup_len {α : Type} [BEq α] [LawfulBEq α] : ∀ {a b : List α}, a.Nodup → (∀ x, x ∈ a → x ∈ b) → a.length ≤ b.length
  | [], _, _, _ => Nat.zero_le _
  | x :: a, b, hn, h => by
    simp only [List.nodup_cons] at hn
    have hx := h x List.mem_cons_self
    have ih := nodup_len (b := b.erase x) hn.2 fun y hy => (List.mem_erase_of_ne (by rintro rfl; exact hn.1 hy)).2 (h y (List.mem_cons_of_mem _ hy))
    rw [List.length_erase_of_mem hx] at ih
    have := List.length_pos_of_mem hx
    simp only [List.length_cons]; omega
theorem nodup_map {α β : Type} {f : α → β} : ∀ {l : List α}, l.Nodup → (∀ x y, x ∈ l → y ∈ l → f x = f y → x = y) → (l.map f).Nodup
  | [], _, _ => by simp
  | x :: l, hn, h => by
    simp only [List.nodup_cons] at hn
    simp only [List.map_cons, List.nodup_cons, List.mem_map, not_exists, not_and]
    refine ⟨fun y hy e => hn.1 ?_, nodup_map hn.2 fun a b ha hb => h a b (List.mem_cons_of_mem _ ha) (List.mem_cons_of_mem _ hb)⟩
    have := h x y List.mem_cons_self (List.mem_cons_of_mem _ hy) e.symm
    rw [this]; exact hy
section
variable {n : Nat} {A : Nat → Nat → Int} {R C : Nat → Int}
theorem Greatest.choice (h : Greatest n A R C) (hall : ∀ r, r < n → 0 ≤ C r) : Choice n A fun r => (C r).toNat := by
  refine ⟨fun r hr => ?_, fun r r' hlt hr' e => ?_⟩
  · obtain ⟨c, h1, h2, h3⟩ := h.1.2 r hr (hall r hr)
    obtain ⟨q, g1, g2, g3, g4⟩ := h.1.1 c h2 (by omega)
    have : q = r := by omega
    subst this
    simp only [h1, Int.toNat_natCast]
    exact ⟨h2, g4⟩
  · obtain ⟨c, h1, h2, h3⟩ := h.1.2 r (by omega) (hall r (by omega))
    obtain ⟨c', h1', h2', h3'⟩ := h.1.2 r' hr' (hall r' hr')
    have e' : (C r).toNat = (C r').toNat := e
    have : c = c' := by omega
    subst this; omega
/-- A closed set with a row that has no column: fewer columns than rows. -/
theorem closed_fewer (hI : Inv n A R C) {S : Nat → Prop} (hS : Closed n A R S) {r : Nat} (hr : r < n) (hSr : S r) (hCr : C r < 0) (l : List Nat) (hl : ∀ q, q ∈ l ↔ q < n ∧ S q) (_ : l.Nodup)
    (cs : List Nat) (hcn : cs.Nodup) (hcs : ∀ c, c ∈ cs → c < n ∧ ∃ q, q ∈ l ∧ A q c ≠ 0) : cs.length < l.length := by
  have hrl : r ∈ l := (hl r).2 ⟨hr, hSr⟩
  have key : ∀ c, c ∈ cs → ∃ o : Nat, R c = o ∧ o ∈ l.erase r ∧ C o = c := by
    intro c hc
    obtain ⟨h1, q, hq, hA⟩ := hcs c hc
    obtain ⟨h2, h3⟩ := (hl q).1 hq
    obtain ⟨o, h4, h5⟩ := hS q h2 h3 c h1 hA
    obtain ⟨o', g1, g2, g3, g4⟩ := hI.1 c h1 (by omega)
    have : o' = o := by omega
    subst this
    refine ⟨o', h4, (List.mem_erase_of_ne (by rintro rfl; omega)).2 ((hl o').2 ⟨g2, h5⟩), g3⟩
  have h1 : (cs.map fun c => (R c).toNat).Nodup := nodup_map hcn fun x y hx hy e => by
    obtain ⟨o, a1, a2, a3⟩ := key x hx
    obtain ⟨o', b1, b2, b3⟩ := key y hy
    have e' : (R x).toNat = (R y).toNat := e
    have : o = o' := by omega
    subst this; omega
  have h2 := nodup_len (b := l.erase r) h1 fun o ho => by
    obtain ⟨c, hc, rfl⟩ := List.mem_map.1 ho
    obtain ⟨o, a1, a2, a3⟩ := key c hc
    rw [a1]; simpa using a2
  rw [List.length_map, List.length_erase_of_mem hrl] at h2
  have := List.length_pos_of_mem hrl
  omega
open Classical in
theorem Greatest.none (h : Greatest n A R C) {r : Nat} (hr : r < n) (hCr : C r < 0) (p : Nat → Nat) : ¬ Choice n A p := by
  intro hp
  obtain ⟨S, hS, hSr⟩ := h.2 r hr hCr
  have hl : ∀ q, q ∈ (List.range n).filter (fun q => decide (S q)) ↔ q < n ∧ S q := fun q => by simp
  have hln : ((List.range n).filter (fun q => decide (S q))).Nodup := List.nodup_range.sublist List.filter_sublist
  have := closed_fewer h.1 hS hr hSr hCr _ hl hln (((List.range n).filter (fun q => decide (S q))).map p) (nodup_map hln fun x y hx hy e => hp.inj ((hl x).1 hx).1 ((hl y).1 hy).1 e)
    (fun c hc => by
      obtain ⟨q, hq, rfl⟩ := List.mem_map.1 hc
      exact ⟨(hp.1 q ((hl q).1 hq).1).1, q, hq, (hp.1 q ((hl q).1 hq).1).2⟩)
  simp at this
/-- No search can extend it, and it is whole exactly if there is a possible choice. -/
theorem Greatest.iff (h : Greatest n A R C) : (∃ p, Choice n A p) ↔ ∀ r, r < n → 0 ≤ C r :=
  ⟨fun ⟨p, hp⟩ _ hr => Int.not_lt.1 fun hneg => h.none hr hneg p hp, fun hall => ⟨_, h.choice hall⟩⟩
/-- The numbers of a table in which row r has only column c, and column c only row r. -/
def withF (A : Nat → Nat → Int) (r c : Nat) : Nat → Nat → Int := fun i k => if (decide (i = r) != decide (k = c)) = true then 0 else A i k
theorem with_choice {r c : Nat} (hr : r < n) {p : Nat → Nat} : Choice n (withF A r c) p ↔ Choice n A p ∧ p r = c := by
  constructor
  · intro h
    have hrc : p r = c := by
      have := (h.1 r hr).2
      unfold withF at this
      apply Classical.byContradiction
      intro hne
      exact this (by simp [hne])
    refine ⟨⟨fun i hi => ⟨(h.1 i hi).1, ?_⟩, h.2⟩, hrc⟩
    have := (h.1 i hi).2
    unfold withF at this
    intro e
    apply this
    split
    · rfl
    · exact e
  · rintro ⟨h, hrc⟩
    refine ⟨fun i hi => ⟨(h.1 i hi).1, ?_⟩, h.2⟩
    unfold withF
    by_cases e : i = r
    · subst e; simp [hrc]; rw [← hrc]; exact (h.1 i hi).2
    · have : p i ≠ c := by rw [← hrc]; exact fun e2 => e (h.inj hi hr e2)
      simp [e, this, (h.1 i hi).2]
/-- The first one: at each row the smallest column that any possible choice with the same beginning has. -/
def First (n : Nat) (A : Nat → Nat → Int) (p : Nat → Nat) : Prop := Choice n A p ∧ ∀ p', Choice n A p' → ∀ k, k < n → (∀ j, j < k → p' j = p j) → p k ≤ p' k
end
end MM
end Go.Proofs.Ytdpckinhoooigaa
