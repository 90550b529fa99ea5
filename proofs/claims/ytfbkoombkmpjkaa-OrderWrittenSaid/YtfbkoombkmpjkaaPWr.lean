/- Plain law: Cycled and Written undo each other. No program in sight. -/
import Derived.Test.YtfbkoombkmpjkaaPCyl
import Derived.Test.YtfbkoombkmpjkaaPInv
import Derived.Test.YtfbkoombkmpjkaaPMade
namespace Go.Proofs.Ytfbkoombkmpjkaa
open CY PO
namespace CL
theorem cyK_at {A : List Int} (h : Ok A) : ∀ {k : Nat}, k ≤ A.length → ∀ i, i < k → (cyK A k).getD (nxt A i) 0 = A.getD (nx A i) 0
  | 0, _, i, hi => by omega
  | k + 1, hk, i, hi => by
    simp only [cyK]
    rw [getD_set (by rw [cyK_len]; exact (h.nxt_lt (by omega)).1)]
    by_cases e : i = k
    · subst e; rw [if_pos rfl]
    · rw [if_neg fun e2 => e (h.nxt_inj (by omega) (by omega) e2), cyK_at h (by omega) i (by omega)]
theorem stt_le {A : List Int} : ∀ {i : Nat}, stt A i ≤ i
  | 0 => Nat.le_refl _
  | i + 1 => by
    have := stt_le (A := A) (i := i)
    show (if isR A (i + 1) then i + 1 else stt A i) ≤ _
    split <;> omega
theorem stt_isR {A : List Int} : ∀ {i : Nat}, stt A i = 0 ∨ isR A (stt A i)
  | 0 => .inl rfl
  | i + 1 => by
    show (if isR A (i + 1) then i + 1 else stt A i) = 0 ∨ isR A (if isR A (i + 1) then i + 1 else stt A i)
    by_cases c : isR A (i + 1)
    · rw [if_pos c]; exact .inr c
    · rw [if_neg c]; exact stt_isR
theorem stt_ge {A : List Int} {r : Nat} (hr : isR A r) : ∀ {d : Nat}, r ≤ stt A (r + d)
  | 0 => by
    cases r with
    | zero => exact Nat.zero_le _
    | succ r => show _ ≤ (if isR A (r + 1) then r + 1 else stt A r); rw [if_pos hr]; exact Nat.le_refl _
  | d + 1 => by
    have := stt_ge hr (d := d)
    show r ≤ (if isR A (r + d + 1) then r + d + 1 else stt A (r + d))
    split <;> omega
theorem nx_lt {A : List Int} {i : Nat} (hi : i < A.length) : nx A i < A.length := by
  have := stt_le (A := A) (i := i)
  unfold nx
  split <;> omega
theorem nx_inj {A : List Int} {i j : Nat} (hi : i < A.length) (hj : j < A.length) (e : nx A i = nx A j) : i = j := by
  have key : ∀ {i j : Nat}, i < j → j < A.length → nx A i ≠ nx A j := fun {i j} hij hj e => by
    have h1 := stt_le (A := A) (i := i)
    have h2 := stt_le (A := A) (i := j)
    unfold nx at e
    by_cases c1 : i + 1 < A.length ∧ ¬ isR A (i + 1)
    · rw [if_pos c1] at e
      by_cases c2 : j + 1 < A.length ∧ ¬ isR A (j + 1)
      · rw [if_pos c2] at e; omega
      · rw [if_neg c2] at e
        rcases stt_isR (A := A) (i := j) with h | h
        · omega
        · rw [← e] at h; exact c1.2 h
    · rw [if_neg c1] at e
      have hr : isR A (i + 1) := Classical.byContradiction fun hn => c1 ⟨by omega, hn⟩
      have h3 := stt_ge hr (d := j - (i + 1))
      rw [show i + 1 + (j - (i + 1)) = j by omega] at h3
      by_cases c2 : j + 1 < A.length ∧ ¬ isR A (j + 1)
      · rw [if_pos c2] at e
        omega
      · rw [if_neg c2] at e; omega
  rcases Nat.lt_trichotomy i j with h | h | h
  · exact absurd e (key h hj)
  · exact h
  · exact absurd e.symm (key h hi)
section
variable {A : List Int} (h : Ok A)
include h
theorem cy_at {i : Nat} (hi : i < A.length) : (cyK A A.length).getD (nxt A i) 0 = A.getD (nx A i) 0 := cyK_at h (Nat.le_refl _) i hi
theorem cy_ok : Ok (cyK A A.length) where
  rng x hx := by
    rw [cyK_len] at hx ⊢
    obtain ⟨i, hi, rfl⟩ := surj h hx
    rw [cy_at h hi]
    exact h.rng _ (nx_lt hi)
  inj a b hba ha e := by
    rw [cyK_len] at ha
    obtain ⟨i, hi, rfl⟩ := surj h (x := a) ha
    obtain ⟨j, hj, rfl⟩ := surj h (x := b) (by omega)
    rw [cy_at h hi, cy_at h hj] at e
    have hn : nx A j = nx A i := by
      rcases Nat.lt_trichotomy (nx A j) (nx A i) with h1 | h1 | h1
      · exact absurd e (h.inj _ _ h1 (nx_lt hi))
      · exact h1
      · exact absurd e.symm (h.inj _ _ h1 (nx_lt hj))
    have := nx_inj hj hi hn
    subst this
    omega
theorem nxt_cy {i : Nat} (hi : i < A.length) : nxt (cyK A A.length) (nxt A i) = nxt A (nx A i) := by
  show ((cyK A A.length).getD (nxt A i) 0 - 1).toNat = _
  rw [cy_at h hi]; rfl
/-- The way from a number of a part. -/
theorem it_cy {s e : Nat} (hs : isR A s) (hg : ∀ i, s < i → i < e → ¬ isR A i) (he : e ≤ A.length) (he2 : e < A.length → isR A e) {i : Nat} (hi : s ≤ i) : ∀ {m : Nat}, i + m < e → it (cyK A A.length) (nxt A i) m = nxt A (i + m)
  | 0, _ => rfl
  | m + 1, hm => by
    show nxt _ (it (cyK A A.length) (nxt A i) m) = _
    rw [it_cy hs hg he he2 hi (by omega), nxt_cy h (by omega)]
    have := nx_eq (d := i + m - s) (.inl hs) hg he he2 (by omega)
    rw [show s + (i + m - s) = i + m by omega, if_pos (by omega)] at this
    rw [this]
    rfl
theorem it_cy_end {s e : Nat} (hs : isR A s) (hg : ∀ i, s < i → i < e → ¬ isR A i) (he : e ≤ A.length) (he2 : e < A.length → isR A e) {i : Nat} (hi : s ≤ i) (hie : i < e) : it (cyK A A.length) (nxt A i) (e - i) = nxt A s := by
  obtain ⟨m, hm⟩ : ∃ m, e - i = m + 1 := ⟨e - i - 1, by omega⟩
  rw [hm]
  show nxt _ (it (cyK A A.length) (nxt A i) m) = _
  rw [it_cy h hs hg he he2 hi (by omega), nxt_cy h (by omega)]
  have := nx_eq (d := i + m - s) (.inl hs) hg he he2 (by omega)
  rw [show s + (i + m - s) = i + m by omega, if_neg (by omega)] at this
  rw [this]
theorem in_lt {s e i : Nat} (hs : isR A s) (hg : ∀ i, s < i → i < e → ¬ isR A i) (he : e ≤ A.length) (hi : s < i) (hie : i < e) : A.getD i 0 < A.getD s 0 := by
  have h1 := hg i hi hie
  have h2 := most_in hs hg (d := i - s - 1) (by omega)
  rw [show s + 1 + (i - s - 1) = i by omega] at h2
  have h3 := h.inj i s hi (by omega)
  have h4 : ¬ mostB A i < A.getD i 0 := h1
  omega
theorem nxt_mono {a b : Nat} (ha : a < A.length) (hb : b < A.length) : nxt A a < nxt A b ↔ A.getD a 0 < A.getD b 0 := by
  have h1 := (h.nxt_lt ha).2
  have h2 := (h.nxt_lt hb).2
  omega
theorem top_rec {s e : Nat} (hs : isR A s) (hg : ∀ i, s < i → i < e → ¬ isR A i) (hse : s < e) (he : e ≤ A.length) (he2 : e < A.length → isR A e) :
    top (cyK A A.length) (nxt A s) ∧ cyc (cyK A A.length) (nxt A s) = (A.drop s).take (e - s) := by
  have hok := cy_ok h
  have hlt := (h.nxt_lt (i := s) (by omega)).1
  have hret := it_cy_end h hs hg he he2 (Nat.le_refl s) hse
  have hne : ∀ j, 1 ≤ j → j ≤ e - s - 1 → it (cyK A A.length) (nxt A s) j ≠ nxt A s := fun j h1 h2 e => by
    rw [it_cy h hs hg he he2 (Nat.le_refl s) (by omega)] at e
    have := h.nxt_inj (by omega) (by omega) e
    omega
  have hret' : it (cyK A A.length) (nxt A s) (e - s - 1 + 1) = nxt A s := by rw [show e - s - 1 + 1 = e - s by omega]; exact hret
  constructor
  · rw [top_of hok (by rw [cyK_len]; exact hlt) hne hret']
    intro j h1 h2
    rw [it_cy h hs hg he he2 (Nat.le_refl s) (by omega)]
    exact (nxt_mono h (by omega) (by omega)).2 (in_lt h hs hg he (by omega) (by omega))
  · rw [cyc_eq hok (by rw [cyK_len]; exact hlt) hne hret']
    refine list_ext (by simp; omega) fun j hj => ?_
    have hj' : j < e - s := by simp at hj; omega
    have e1 : ((A.drop s).take (e - s)).getD j 0 = A.getD (s + j) 0 := by simp [List.getD, hj']
    rw [e1, ← (h.nxt_lt (i := s + j) (by omega)).2]
    have e2 := it_cy h hs hg he he2 (Nat.le_refl s) (m := j) (by omega)
    simp [List.getD, show j < e - s - 1 + 1 by omega, e2]
theorem not_top_in {s e i : Nat} (hs : isR A s) (hg : ∀ i, s < i → i < e → ¬ isR A i) (he : e ≤ A.length) (he2 : e < A.length → isR A e) (hi : s < i) (hie : i < e) : ¬ top (cyK A A.length) (nxt A i) := by
  intro ht
  have := (top_iff (cy_ok h) (by rw [cyK_len]; exact (h.nxt_lt (by omega)).1)).1 ht (e - i)
  rw [it_cy_end h hs hg he he2 (by omega) hie] at this
  have := (nxt_mono h (a := i) (b := s) (by omega) (by omega)).2 (in_lt h hs hg he hi hie)
  omega
omit h in
theorem most_ge {L : List Int} {i : Nat} : ∀ {r : Nat}, i < r → L.getD i 0 ≤ mostB L r
  | r + 1, hi => by
    show _ ≤ (if L.getD r 0 > mostB L r then L.getD r 0 else mostB L r)
    by_cases e : i = r
    · subst e; split <;> omega
    · have := most_ge (L := L) (i := i) (r := r) (by omega)
      split <;> omega
omit h in
theorem block_end {s : Nat} : ∀ {d m : Nat}, m + d = A.length → s < m → (∀ i, s < i → i < m → ¬ isR A i) → ∃ e, s < e ∧ e ≤ A.length ∧ (∀ i, s < i → i < e → ¬ isR A i) ∧ (e < A.length → isR A e)
  | 0, m, hm, hs, hg => ⟨m, hs, by omega, hg, fun hl => by omega⟩
  | d + 1, m, hm, hs, hg => by
    by_cases c : isR A m
    · exact ⟨m, hs, by omega, hg, fun _ => c⟩
    · exact block_end (d := d) (m := m + 1) (by omega) (by omega) fun i h1 h2 => by
        by_cases e : i = m
        · subst e; exact c
        · exact hg i h1 (by omega)
/-- A place on top is a record's. -/
theorem top_is_rec {i : Nat} (hi : i < A.length) (ht : top (cyK A A.length) (nxt A i)) : isR A i := by
  have h0 : isR A 0 := by have := h.rng 0 (by omega); show (0 : Int) < _; omega
  have hst : isR A (stt A i) := by
    rcases stt_isR (A := A) (i := i) with e | e
    · rw [e]; exact h0
    · exact e
  have hle := stt_le (A := A) (i := i)
  have hno : ∀ j, stt A i < j → j ≤ i → ¬ isR A j := fun j h1 h2 hj => by
    have := stt_ge hj (d := i - j)
    rw [show j + (i - j) = i by omega] at this
    omega
  by_cases e : stt A i = i
  · rw [e] at hst; exact hst
  · exfalso
    obtain ⟨b, b1, b2, b3, b4⟩ := block_end (A := A) (s := stt A i) (d := A.length - (i + 1)) (m := i + 1) (by omega) (by omega) fun j h1 h2 => hno j h1 (by omega)
    have hib : i < b := by
      apply Classical.byContradiction
      intro hb
      by_cases e3 : b < A.length
      · exact hno b b1 (by omega) (b4 e3)
      · omega
    exact not_top_in h hst b3 b2 b4 (by omega) hib ht
omit h in
theorem cycs_skip {L : List Int} {a : Nat} : ∀ {d : Nat}, (∀ x, a ≤ x → x < a + d → ¬ top L x) → cycs L (a + d) = cycs L a
  | 0, _ => rfl
  | d + 1, hn => by
    show cycs L (a + d) ++ (if top L (a + d) then [cyc L (a + d)] else []) = _
    rw [cycs_skip fun x h1 h2 => hn x h1 (by omega), if_neg (hn _ (by omega) (by omega)), List.append_nil]
theorem cyc_flat : ∀ {d s : Nat}, s + d = A.length → s < A.length → isR A s → (cycs (cyK A A.length) (nxt A s)).flatten = A.take s → (cycs (cyK A A.length) A.length).flatten = A
  | d, s, hd, hsn, hs, hP => by
    · obtain ⟨e, e1, e2, e3, e4⟩ := block_end (A := A) (s := s) (d := A.length - (s + 1)) (m := s + 1) (by omega) (by omega) fun i h1 h2 => by omega
      obtain ⟨t1, t2⟩ := top_rec h hs e3 e1 e2 e4
      have hstep : (cycs (cyK A A.length) (nxt A s + 1)).flatten = A.take e := by
        simp only [cycs]
        rw [if_pos t1, List.flatten_append, hP, t2]
        simp only [List.flatten_cons, List.flatten_nil, List.append_nil]
        have := List.take_append_drop s (A.take e)
        rw [List.take_take, Nat.min_eq_left (by omega), List.drop_take] at this
        exact this
      have hls := h.nxt_lt hsn
      have hno : ∀ x, nxt A s + 1 ≤ x → x < A.length → (∀ y, e < A.length → y = e → x < nxt A y) → ¬ top (cyK A A.length) x := fun x hx hxn hxe ht => by
        obtain ⟨r, hr, rfl⟩ := surj h hxn
        have hrr := top_is_rec h hr ht
        have hgt : A.getD s 0 < A.getD r 0 := (nxt_mono h hsn hr).1 (by omega)
        by_cases c : r ≤ s
        · by_cases c2 : r = s
          · subst c2; omega
          · have h5 := most_ge (L := A) (i := r) (r := s) (by omega)
            have h6 : mostB A s < A.getD s 0 := hs
            omega
        · have hre : e ≤ r := by
            apply Classical.byContradiction
            intro hh
            exact e3 r (by omega) (by omega) hrr
          have hlt := (nxt_mono h hr (b := e) (by omega)).1 (hxe e (by omega) rfl)
          by_cases c3 : r = e
          · subst c3; omega
          · have h5 := most_ge (L := A) (i := e) (r := r) (by omega)
            have h6 : mostB A r < A.getD r 0 := hrr
            omega
      by_cases hen : e < A.length
      · have hle := (h.nxt_lt hen).1
        have hse : A.getD s 0 < A.getD e 0 := by
          have h5 := most_ge (L := A) (i := s) (r := e) e1
          have h6 : mostB A e < A.getD e 0 := e4 hen
          omega
        have hpp := (nxt_mono h hsn hen).2 hse
        have hsk := cycs_skip (L := cyK A A.length) (a := nxt A s + 1) (d := nxt A e - (nxt A s + 1)) fun x h1 h2 => hno x h1 (by omega) fun y _ hy => by subst hy; omega
        rw [show nxt A s + 1 + (nxt A e - (nxt A s + 1)) = nxt A e by omega] at hsk
        exact cyc_flat (d := A.length - e) (s := e) (by omega) hen (e4 hen) (by rw [hsk]; exact hstep)
      · have hsk := cycs_skip (L := cyK A A.length) (a := nxt A s + 1) (d := A.length - (nxt A s + 1)) fun x h1 h2 => hno x h1 (by omega) fun y h3 _ => absurd h3 hen
        rw [show nxt A s + 1 + (A.length - (nxt A s + 1)) = A.length by omega] at hsk
        rw [hsk, hstep, show e = A.length by omega, List.take_length]
termination_by d => d
/-- Written undoes Cycled. -/
theorem wrt_cy : (cycs (cyK A A.length) (cyK A A.length).length).flatten = A := by
  rw [cyK_len]
  by_cases h0 : A.length = 0
  · rw [h0, List.eq_nil_of_length_eq_zero h0]; rfl
  · have hr0 : isR A 0 := by have := h.rng 0 (by omega); show (0 : Int) < _; omega
    refine cyc_flat h (d := A.length) (s := 0) (by omega) (by omega) hr0 ?_
    have hsk := cycs_skip (L := cyK A A.length) (a := 0) (d := nxt A 0) fun x _ h2 ht => by
      have hl0 := (h.nxt_lt (i := 0) (by omega)).1
      obtain ⟨r, hr, rfl⟩ := surj h (x := x) (by omega)
      have hrr := top_is_rec h hr ht
      have hlt := (nxt_mono h hr (b := 0) (by omega)).1 (by omega)
      by_cases c : r = 0
      · subst c; omega
      · have h5 := most_ge (L := A) (i := 0) (r := r) (by omega)
        have h6 : mostB A r < A.getD r 0 := hrr
        omega
    rw [Nat.zero_add] at hsk
    rw [hsk]; rfl
/-- The numbers of a cycle that is on top. -/
theorem cyc_top {i : Nat} (hi : i < A.length) (ht : top A i) : ∃ m, cyc A i = lead A i (m + 1) ∧ it A i (m + 1) = i ∧ (∀ j, 1 ≤ j → j ≤ m → it A i j < i) := by
  obtain ⟨m, hm, hne⟩ := PO.back h hi
  exact ⟨m, cyc_eq h hi hne hm, hm, (top_of h hi hne hm).1 ht⟩
theorem mem_cyc {i x : Nat} (hi : i < A.length) (ht : top A i) : (x : Int) + 1 ∈ cyc A i ↔ ∃ m, it A i m = x := by
  obtain ⟨m, e, hm, _⟩ := cyc_top h hi ht
  rw [e]
  unfold lead
  constructor
  · intro hx
    obtain ⟨j, _, hj⟩ := List.mem_map.1 hx
    exact ⟨j, by omega⟩
  · rintro ⟨k, rfl⟩
    have : it A i k = it A i (k % (m + 1)) := by
      conv => lhs; rw [← Nat.div_add_mod k (m + 1)]
      rw [it_add, it_per hm]
    refine List.mem_map.2 ⟨k % (m + 1), ?_, by rw [this]⟩
    have := Nat.mod_lt k (show m + 1 > 0 by omega)
    simp; omega
theorem cyc_mem_nat {i : Nat} {y : Int} (hi : i < A.length) (ht : top A i) (hy : y ∈ cyc A i) : ∃ x : Nat, y = (x : Int) + 1 ∧ x < A.length := by
  obtain ⟨m, e, _, _⟩ := cyc_top h hi ht
  rw [e] at hy
  obtain ⟨j, _, hj⟩ := List.mem_map.1 hy
  exact ⟨it A i j, hj.symm, h.it_lt hi j⟩
theorem mem_flat {x : Nat} : ∀ {n : Nat}, n ≤ A.length → ((x : Int) + 1 ∈ (cycs A n).flatten ↔ ∃ i, i < n ∧ top A i ∧ ∃ m, it A i m = x)
  | 0, _ => by simp [cycs]
  | n + 1, hn => by
    have ih := mem_flat (x := x) (n := n) (by omega)
    simp only [cycs, List.flatten_append, List.mem_append]
    rw [ih]
    by_cases ht : top A n
    · rw [if_pos ht]
      simp only [List.flatten_cons, List.flatten_nil, List.append_nil]
      rw [mem_cyc h (by omega) ht]
      constructor
      · rintro (⟨i, h1, h2⟩ | h2)
        · exact ⟨i, by omega, h2⟩
        · exact ⟨n, by omega, ht, h2⟩
      · rintro ⟨i, h1, h2, h3⟩
        by_cases e : i = n
        · subst e; exact .inr h3
        · exact .inl ⟨i, by omega, h2, h3⟩
    · rw [if_neg ht]
      simp only [List.flatten_nil, List.not_mem_nil, or_false]
      constructor
      · rintro ⟨i, h1, h2⟩; exact ⟨i, by omega, h2⟩
      · rintro ⟨i, h1, h2, h3⟩
        by_cases e : i = n
        · subst e; exact absurd h2 ht
        · exact ⟨i, by omega, h2, h3⟩
theorem flat_nat : ∀ {n : Nat}, n ≤ A.length → ∀ y ∈ (cycs A n).flatten, ∃ x : Nat, y = (x : Int) + 1 ∧ x < A.length
  | 0, _, y, hy => by simp [cycs] at hy
  | n + 1, hn, y, hy => by
    simp only [cycs, List.flatten_append, List.mem_append] at hy
    rcases hy with hy | hy
    · exact flat_nat (by omega) y hy
    · by_cases ht : top A n
      · rw [if_pos ht] at hy
        simp only [List.flatten_cons, List.flatten_nil, List.append_nil] at hy
        exact cyc_mem_nat h (by omega) ht hy
      · rw [if_neg ht] at hy; simp at hy
theorem cyc_nodup {i : Nat} (hi : i < A.length) (ht : top A i) : (cyc A i).Nodup := by
  obtain ⟨m, e, hm, hl⟩ := cyc_top h hi ht
  rw [e]
  unfold lead
  rw [List.nodup_iff_pairwise_ne, List.pairwise_map]
  refine List.Pairwise.imp_of_mem ?_ (List.pairwise_lt_range (n := m + 1))
  intro a b ha hb hab e2
  have hb' : b < m + 1 := by simpa using hb
  have := h.it_back hi (a := a) (d := b - a) (by rw [show a + (b - a) = b by omega]; omega)
  have := hl (b - a) (by omega) (by omega)
  omega
theorem flat_nodup : ∀ {n : Nat}, n ≤ A.length → (cycs A n).flatten.Nodup
  | 0, _ => by simp [cycs]
  | n + 1, hn => by
    simp only [cycs, List.flatten_append]
    by_cases ht : top A n
    · rw [if_pos ht]
      simp only [List.flatten_cons, List.flatten_nil, List.append_nil]
      rw [List.nodup_append]
      refine ⟨flat_nodup (by omega), cyc_nodup h (by omega) ht, fun y hy z hz e => ?_⟩
      subst e
      obtain ⟨x, rfl, _⟩ := flat_nat h (n := n) (by omega) y hy
      obtain ⟨i, h1, h2, a, ha⟩ := (mem_flat h (by omega)).1 hy
      obtain ⟨b, hb⟩ := (mem_cyc h (by omega) ht).1 hz
      obtain ⟨m, hm, _⟩ := PO.back h (i := n) (by omega)
      have hper := it_per hm (q := b)
      have hbm : b ≤ (m + 1) * b := Nat.le_mul_of_pos_left _ (by omega)
      have : it A i (a + ((m + 1) * b - b)) = n := by
        rw [it_add, ha, ← hb, ← it_add, show b + ((m + 1) * b - b) = (m + 1) * b by omega, hper]
      have := (top_iff h (i := i) (by omega)).1 h2 (a + ((m + 1) * b - b))
      omega
    · rw [if_neg ht]
      simpa using flat_nodup (n := n) (by omega)
theorem to_top : ∀ {d x : Nat}, x + d = A.length → x < A.length → ∃ i m, i < A.length ∧ top A i ∧ it A x m = i
  | d, x, hd, hx => by
    by_cases ht : top A x
    · exact ⟨x, 0, hx, ht, rfl⟩
    · have : ∃ m, x < it A x m := Classical.byContradiction fun hn => ht ((top_iff h hx).2 fun m => Nat.le_of_not_lt fun hlt => hn ⟨m, hlt⟩)
      obtain ⟨m, hm⟩ := this
      have hlt := h.it_lt hx m
      obtain ⟨i, k, h1, h2, h3⟩ := to_top (d := A.length - it A x m) (x := it A x m) (by omega) hlt
      exact ⟨i, m + k, h1, h2, by rw [it_add]; exact h3⟩
termination_by d => d
theorem flat_all {x : Nat} (hx : x < A.length) : (x : Int) + 1 ∈ (cycs A A.length).flatten := by
  obtain ⟨i, M, h1, h2, h3⟩ := to_top h (d := A.length - x) (x := x) (by omega) hx
  refine (mem_flat h (Nat.le_refl _)).2 ⟨i, h1, h2, ?_⟩
  obtain ⟨m, hm, _⟩ := PO.back h hx
  have hper := it_per hm (q := M)
  have hbm : M ≤ (m + 1) * M := Nat.le_mul_of_pos_left _ (by omega)
  exact ⟨(m + 1) * M - M, by rw [← h3, ← it_add, show M + ((m + 1) * M - M) = (m + 1) * M by omega, hper]⟩
theorem flat_perm : ((cycs A A.length).flatten).Perm (MD.iota A.length) := by
  have hn2 : (MD.iota A.length).Nodup := by
    have := MD.iota_asc (n := A.length)
    rw [List.nodup_iff_pairwise_ne]
    exact this.imp fun h => by omega
  refine (List.perm_ext_iff_of_nodup (flat_nodup h (Nat.le_refl _)) hn2).2 fun y => ?_
  constructor
  · intro hy
    obtain ⟨x, rfl, hx⟩ := flat_nat h (Nat.le_refl _) y hy
    exact List.mem_map.2 ⟨x, by simpa using hx, rfl⟩
  · intro hy
    obtain ⟨x, hx, rfl⟩ := List.mem_map.1 hy
    exact flat_all h (by simpa using hx)
theorem flat_len : ((cycs A A.length).flatten).length = A.length := by
  rw [(flat_perm h).length_eq, MD.iota_len]
theorem flat_ok : Ok ((cycs A A.length).flatten) := MD.perm_ok (by rw [flat_len h]; exact flat_perm h)
end
end CL
end Go.Proofs.Ytfbkoombkmpjkaa
