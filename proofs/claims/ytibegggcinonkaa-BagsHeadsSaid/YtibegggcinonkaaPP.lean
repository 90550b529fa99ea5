/- Plain law: peeling a graph; core numbers. -/
import Derived.Test.YtibegggcinonkaaPD
namespace Go.Proofs.Ytibegggcinonkaa
/-- The neighbors of v among those in P. -/
def nbP (L : List (Int × Int)) (P : Int → Bool) (v : Int) : Int := sumTo (fun k => if ((ed L k).1 = v ∧ P (ed L k).2 = true) ∨ ((ed L k).2 = v ∧ P (ed L k).1 = true) then 1 else 0) L.length
theorem nbP_mono {L : List (Int × Int)} {P Q : Int → Bool} {v : Int} (h : ∀ u, P u = true → Q u = true) : nbP L P v ≤ nbP L Q v := by
  refine sumTo_le fun k _ => ?_
  by_cases c : ((ed L k).1 = v ∧ P (ed L k).2 = true) ∨ ((ed L k).2 = v ∧ P (ed L k).1 = true)
  · rw [if_pos c, if_pos (c.imp (fun c => ⟨c.1, h _ c.2⟩) fun c => ⟨c.1, h _ c.2⟩)]; exact Int.le_refl _
  · rw [if_neg c]; split <;> decide
theorem nbP_on {L : List (Int × Int)} {P Q : Int → Bool} {v : Int} (h : ∀ k, k < L.length → (P (ed L k).1 = true → Q (ed L k).1 = true) ∧ (P (ed L k).2 = true → Q (ed L k).2 = true)) : nbP L P v ≤ nbP L Q v := by
  refine sumTo_le fun k hk => ?_
  have hk := h k hk
  by_cases c : ((ed L k).1 = v ∧ P (ed L k).2 = true) ∨ ((ed L k).2 = v ∧ P (ed L k).1 = true)
  · rw [if_pos c, if_pos (c.imp (fun c => ⟨c.1, hk.2 c.2⟩) fun c => ⟨c.1, hk.1 c.2⟩)]; exact Int.le_refl _
  · rw [if_neg c]; split <;> decide
theorem nbP_nonneg {L : List (Int × Int)} {P : Int → Bool} {v : Int} : 0 ≤ nbP L P v := by
  have := sumTo_le (f := fun _ => 0) (g := fun k => if ((ed L k).1 = v ∧ P (ed L k).2 = true) ∨ ((ed L k).2 = v ∧ P (ed L k).1 = true) then 1 else 0) (n := L.length) fun k _ => by split <;> decide
  rwa [sumTo_zero] at this
theorem nbP_le {L : List (Int × Int)} {P : Int → Bool} {v : Int} : nbP L P v ≤ L.length := by
  have h := sumTo_le (f := fun k => if ((ed L k).1 = v ∧ P (ed L k).2 = true) ∨ ((ed L k).2 = v ∧ P (ed L k).1 = true) then 1 else 0) (g := fun _ => 1) (n := L.length) fun k _ => by split <;> decide
  have h2 : ∀ n : Nat, sumTo (fun _ => 1) n = n := by
    intro n
    induction n with
    | zero => rfl
    | succ n ih => rw [sumTo, ih]; omega
  rw [h2] at h
  exact h
def cntU (v : Int) : List (Int × Int) → Int
  | [] => 0
  | x :: r => (if x.2 = v then 1 else 0) + cntU v r
theorem cntU_append {v : Int} : ∀ {A B : List (Int × Int)}, cntU v (A ++ B) = cntU v A + cntU v B
  | [], B => by simp [cntU]
  | x :: A, B => by rw [List.cons_append, cntU, cntU, cntU_append]; omega
theorem cntU_nb {L : List (Int × Int)} {x v : Int} : ∀ {m : Nat}, cntU v (nb L x m) = sumTo (fun k => if (ed L k).1 = x then (if (ed L k).2 = v then 1 else 0) else if (ed L k).2 = x then (if (ed L k).1 = v then 1 else 0) else 0) m
  | 0 => rfl
  | m + 1 => by
    rw [nb, cntU_append, cntU_nb (m := m), sumTo]
    congr 1
    split
    · simp [cntU]
    · split <;> simp [cntU]
abbrev out (O : List Int) (u : Int) : Bool := !decide (u ∈ O)
/-- x is removed: each of its neighbors has one neighbor less. -/
theorem nbP_snoc {L : List (Int × Int)} {O : List Int} {x v : Int} (hd : ∀ k, k < L.length → (ed L k).1 ≠ (ed L k).2) (hx : x ∉ O) : nbP L (out (O ++ [x])) v = nbP L (out O) v - cntU v (nb L x L.length) := by
  rw [cntU_nb]
  unfold nbP
  have key : ∀ m, m ≤ L.length → sumTo (fun k => if ((ed L k).1 = v ∧ out (O ++ [x]) (ed L k).2 = true) ∨ ((ed L k).2 = v ∧ out (O ++ [x]) (ed L k).1 = true) then 1 else 0) m =
      sumTo (fun k => if ((ed L k).1 = v ∧ out O (ed L k).2 = true) ∨ ((ed L k).2 = v ∧ out O (ed L k).1 = true) then 1 else 0) m -
      sumTo (fun k => if (ed L k).1 = x then (if (ed L k).2 = v then 1 else 0) else if (ed L k).2 = x then (if (ed L k).1 = v then 1 else 0) else 0) m := by
    intro m
    induction m with
    | zero => intro _; rfl
    | succ m ih =>
      intro hm
      have hne := hd m (by omega)
      rw [sumTo, sumTo, sumTo, ih (by omega)]
      have : (if ((ed L m).1 = v ∧ out (O ++ [x]) (ed L m).2 = true) ∨ ((ed L m).2 = v ∧ out (O ++ [x]) (ed L m).1 = true) then (1 : Int) else 0) = (if ((ed L m).1 = v ∧ out O (ed L m).2 = true) ∨ ((ed L m).2 = v ∧ out O (ed L m).1 = true) then 1 else 0) -
          if (ed L m).1 = x then (if (ed L m).2 = v then 1 else 0) else if (ed L m).2 = x then (if (ed L m).1 = v then 1 else 0) else 0 := by
        have ho : ∀ u, out (O ++ [x]) u = true ↔ u ∉ O ∧ u ≠ x := fun u => by simp [out]
        have ho2 : ∀ u, out O u = true ↔ u ∉ O := fun u => by simp [out]
        simp only [ho, ho2]
        generalize (ed L m).1 = a at *
        generalize (ed L m).2 = b at *
        clear ih
        by_cases c1 : a = x
        · subst c1
          by_cases c2 : b = v
          · subst c2; simp [hx, hne]
          · simp [c2, Ne.symm hne]
        · by_cases c2 : b = x
          · subst c2
            by_cases c3 : a = v
            · subst c3; simp [hx, Ne.symm hne, c1]
            · simp [c1, c3]
          · simp [c1, c2]
      rw [this]; omega
  exact key _ (Nat.le_refl _)
/-- The first vertex that is left with the fewest neighbors left. -/
def pk (L : List (Int × Int)) (O : List Int) : Nat → Int
  | 0 => -1
  | m + 1 => if (m : Int) ∉ O ∧ (pk L O m < 0 ∨ nbP L (out O) m < nbP L (out O) (pk L O m)) then m else pk L O m
theorem pk_spec {L : List (Int × Int)} {O : List Int} : ∀ {m : Nat}, (pk L O m = -1 ∧ ∀ v : Nat, v < m → (v : Int) ∈ O) ∨ (0 ≤ pk L O m ∧ pk L O m < m ∧ pk L O m ∉ O ∧ ∀ v : Nat, v < m → (v : Int) ∉ O → nbP L (out O) (pk L O m) ≤ nbP L (out O) v)
  | 0 => .inl ⟨rfl, fun v hv => by omega⟩
  | m + 1 => by
    have ih := pk_spec (L := L) (O := O) (m := m)
    rw [pk]
    by_cases c : (m : Int) ∉ O ∧ (pk L O m < 0 ∨ nbP L (out O) m < nbP L (out O) (pk L O m))
    · rw [if_pos c]
      refine .inr ⟨by omega, by omega, c.1, fun v hv hvO => ?_⟩
      by_cases e : v = m
      · subst e; exact Int.le_refl _
      · rcases ih with ⟨i1, i2⟩ | ⟨i1, i2, i3, i4⟩
        · exact absurd (i2 v (by omega)) hvO
        · have := i4 v (by omega) hvO
          rcases c.2 with c2 | c2 <;> omega
    · rw [if_neg c]
      rcases ih with ⟨i1, i2⟩ | ⟨i1, i2, i3, i4⟩
      · left
        refine ⟨i1, fun v hv => ?_⟩
        by_cases e : v = m
        · subst e
          by_cases hm : (v : Int) ∈ O
          · exact hm
          · exact absurd ⟨hm, .inl (by omega)⟩ c
        · exact i2 v (by omega)
      · right
        refine ⟨i1, by omega, i3, fun v hv hvO => ?_⟩
        by_cases e : v = m
        · subst e
          have : ¬ nbP L (out O) v < nbP L (out O) (pk L O v) := fun h => c ⟨hvO, .inr h⟩
          omega
        · exact i4 v (by omega) hvO
theorem range_len_ge : ∀ (m : Nat) (O : List Int), (∀ v : Nat, v < m → (v : Int) ∈ O) → m ≤ O.length
  | 0, _, _ => Nat.zero_le _
  | m + 1, O, h => by
    have hm := h m (by omega)
    have := range_len_ge m (O.erase (m : Int)) fun v hv => (List.mem_erase_of_ne (by omega)).2 (h v (by omega))
    rw [List.length_erase_of_mem hm] at this
    have := List.length_pos_of_mem hm
    omega
/-- The order of removing. -/
def peO (L : List (Int × Int)) (n : Nat) : Nat → List Int
  | 0 => []
  | r + 1 => peO L n r ++ [pk L (peO L n r) n]
def peM (L : List (Int × Int)) (n : Nat) : Nat → Int
  | 0 => 0
  | r + 1 => max (peM L n r) (nbP L (out (peO L n r)) (pk L (peO L n r) n))
def peC (L : List (Int × Int)) (n : Nat) : Nat → List Int
  | 0 => List.replicate n 0
  | r + 1 => (peC L n r).set (pk L (peO L n r) n).toNat (peM L n (r + 1))
section
variable {L : List (Int × Int)} {n : Nat}
theorem peO_len : ∀ r, (peO L n r).length = r
  | 0 => rfl
  | r + 1 => by rw [peO, List.length_append, peO_len r]; rfl
theorem peC_len : ∀ r, (peC L n r).length = n
  | 0 => by simp [peC]
  | r + 1 => by rw [peC, List.length_set, peC_len r]
theorem peO_ok : ∀ {r : Nat}, r ≤ n → (peO L n r).Nodup ∧ ∀ v, v ∈ peO L n r → 0 ≤ v ∧ v < n
  | 0, _ => ⟨List.nodup_nil, fun v hv => by cases hv⟩
  | r + 1, h => by
    obtain ⟨h1, h2⟩ := peO_ok (r := r) (by omega)
    have hlen := peO_len (L := L) (n := n) r
    have hs := pk_spec (L := L) (O := peO L n r) (m := n)
    rcases hs with ⟨s1, s2⟩ | ⟨s1, s2, s3, s4⟩
    · exfalso
      have := range_len_ge n (peO L n r) s2
      omega
    · rw [peO]
      refine ⟨?_, fun v hv => ?_⟩
      · rw [List.nodup_append]; exact ⟨h1, by simp, fun a ha b hb => by simp at hb; subst hb; rintro rfl; exact s3 ha⟩
      · rcases List.mem_append.1 hv with hv | hv
        · exact h2 v hv
        · simp at hv; subst hv; exact ⟨s1, s2⟩
theorem pk_ok {r : Nat} (hr : r < n) : 0 ≤ pk L (peO L n r) n ∧ pk L (peO L n r) n < n ∧ pk L (peO L n r) n ∉ peO L n r ∧ ∀ v : Nat, v < n → (v : Int) ∉ peO L n r → nbP L (out (peO L n r)) (pk L (peO L n r) n) ≤ nbP L (out (peO L n r)) v := by
  rcases pk_spec (L := L) (O := peO L n r) (m := n) with ⟨s1, s2⟩ | h
  · have := range_len_ge n (peO L n r) s2
    rw [peO_len] at this; omega
  · exact h
theorem peM_mono {r : Nat} : peM L n r ≤ peM L n (r + 1) := by rw [peM]; exact Int.le_max_left _ _
theorem peM_le {r s : Nat} (h : r ≤ s) : peM L n r ≤ peM L n s := by
  induction s with
  | zero => have : r = 0 := by omega
            subst this; exact Int.le_refl _
  | succ s ih =>
    by_cases e : r = s + 1
    · subst e; exact Int.le_refl _
    · exact Int.le_trans (ih (by omega)) peM_mono
theorem peM_nonneg : ∀ r, 0 ≤ peM L n r := fun r => by
  have := peM_le (L := L) (n := n) (Nat.zero_le r)
  exact this
/-- A set in which each has at least k neighbors of it. -/
def KSet (L : List (Int × Int)) (n : Nat) (k : Int) (C : Int → Bool) : Prop := ∀ v, C v = true → (0 ≤ v ∧ v < n) ∧ k ≤ nbP L C v
/-- As long as the most is less than k, no vertex of such a set is removed. -/
theorem KSet.low {k : Int} {C : Int → Bool} (hC : KSet L n k C) : ∀ {r : Nat}, r ≤ n → peM L n r < k → ∀ v, C v = true → v ∉ peO L n r
  | 0, _, _, v, _ => by simp [peO]
  | r + 1, hr, hm, v, hv => by
    have ih := hC.low (r := r) (by omega) (Int.lt_of_le_of_lt peM_mono hm)
    rw [peO, List.mem_append, List.mem_singleton]
    rintro (h | h)
    · exact ih v hv h
    · have h1 := (hC v hv).2
      have h2 := nbP_mono (L := L) (P := C) (Q := out (peO L n r)) (v := v) fun u hu => by simp [out, ih u hu]
      rw [peM, ← h] at hm
      have := Int.le_max_right (peM L n r) (nbP L (out (peO L n r)) v)
      omega
theorem mem_later {r : Nat} : ∀ {s : Nat}, r < s → pk L (peO L n r) n ∈ peO L n s
  | 0, h => by omega
  | s + 1, h => by
    rw [peO, List.mem_append]
    by_cases e : r = s
    · subst e; exact .inr (by simp)
    · exact .inl (mem_later (by omega))
/-- The core number of the vertex that is removed in round r, and of each vertex. -/
theorem peC_get : ∀ {s : Nat}, s ≤ n → ∀ r, r < s → (peC L n s).getD (pk L (peO L n r) n).toNat 0 = peM L n (r + 1)
  | 0, _, r, hr => by omega
  | s + 1, hs, r, hr => by
    have hp := pk_ok (L := L) (n := n) (r := s) (by omega)
    rw [peC, List.getD_eq_getElem?_getD, List.getElem?_set]
    by_cases e : r = s
    · subst e
      rw [if_pos rfl, if_pos (by rw [peC_len]; omega)]; rfl
    · have hq := pk_ok (L := L) (n := n) (r := r) (by omega)
      have hin : pk L (peO L n r) n ∈ peO L n s := mem_later (by omega)
      have hne : pk L (peO L n s) n ≠ pk L (peO L n r) n := fun c => hp.2.2.1 (c ▸ hin)
      rw [if_neg (by omega), ← List.getD_eq_getElem?_getD]
      exact peC_get (by omega) r (by omega)
theorem peO_mem {v : Int} : ∀ {s : Nat}, v ∈ peO L n s → ∃ r, r < s ∧ v = pk L (peO L n r) n
  | 0, h => by simp [peO] at h
  | s + 1, h => by
    rw [peO, List.mem_append, List.mem_singleton] at h
    rcases h with h | h
    · obtain ⟨r, h1, h2⟩ := peO_mem h; exact ⟨r, by omega, h2⟩
    · exact ⟨s, by omega, h⟩
/-- Each vertex is removed once. -/
theorem peO_all {v : Nat} (hv : v < n) : (v : Int) ∈ peO L n n := by
  by_cases c : (v : Int) ∈ peO L n n
  · exact c
  · exfalso
    obtain ⟨h1, h2⟩ := peO_ok (L := L) (n := n) (r := n) (Nat.le_refl _)
    have h3 := range_len n ((v : Int) :: peO L n n) (List.nodup_cons.2 ⟨c, h1⟩) fun u hu => by
      rcases List.mem_cons.1 hu with rfl | hu
      · omega
      · exact h2 u hu
    rw [List.length_cons, peO_len] at h3; omega
/-- A vertex is in a set in which each has at least k neighbors exactly if its core number is at least k. -/
theorem core_iff (hG : ∀ k, k < L.length → 0 ≤ (ed L k).1 ∧ (ed L k).1 < (ed L k).2 ∧ (ed L k).2 < n) {k : Int} (hk : 0 < k) {v : Nat} (hv : v < n) : k ≤ (peC L n n).getD v 0 ↔ ∃ C, KSet L n k C ∧ C v = true := by
  obtain ⟨r, hr, hvr⟩ := peO_mem (peO_all (L := L) hv)
  have hc := peC_get (L := L) (n := n) (s := n) (Nat.le_refl _) r hr
  rw [← hvr, Int.toNat_natCast] at hc
  rw [hc]
  constructor
  · intro h
    -- the first round in which the most is at least k
    have : ∃ t, t ≤ r ∧ peM L n t < k ∧ k ≤ peM L n (t + 1) := by
      clear hc hvr hv
      induction r with
      | zero => exact ⟨0, Nat.le_refl _, hk, h⟩
      | succ r ih =>
        by_cases c : k ≤ peM L n (r + 1)
        · obtain ⟨t, h1, h2, h3⟩ := ih (by omega) c
          exact ⟨t, by omega, h2, h3⟩
        · exact ⟨r + 1, Nat.le_refl _, by omega, h⟩
    obtain ⟨t, h1, h2, h3⟩ := this
    have hp := pk_ok (L := L) (n := n) (r := t) (by omega)
    have hge : k ≤ nbP L (out (peO L n t)) (pk L (peO L n t) n) := by
      rw [peM] at h3
      rcases Int.le_total (nbP L (out (peO L n t)) (pk L (peO L n t) n)) (peM L n t) with c | c
      · rw [Int.max_eq_left c] at h3; omega
      · rw [Int.max_eq_right c] at h3; exact h3
    refine ⟨fun u => decide (0 ≤ u ∧ u < n) && out (peO L n t) u, fun u hu => ?_, ?_⟩
    · simp only [Bool.and_eq_true, decide_eq_true_eq] at hu
      refine ⟨hu.1, ?_⟩
      have hle := hp.2.2.2 u.toNat (by omega) (by rw [Int.toNat_of_nonneg hu.1.1]; simpa [out] using hu.2)
      rw [Int.toNat_of_nonneg hu.1.1] at hle
      have : nbP L (out (peO L n t)) u ≤ nbP L (fun u => decide (0 ≤ u ∧ u < (n : Int)) && out (peO L n t) u) u := nbP_on fun j hj => by
        have := hG j hj
        exact ⟨fun h => by simp only [Bool.and_eq_true, decide_eq_true_eq]; exact ⟨by omega, h⟩, fun h => by simp only [Bool.and_eq_true, decide_eq_true_eq]; exact ⟨by omega, h⟩⟩
      omega
    · simp only [Bool.and_eq_true, decide_eq_true_eq]
      refine ⟨by omega, ?_⟩
      have := (pk_ok (L := L) (n := n) (r := r) hr).2.2.1
      rw [← hvr] at this
      have hsub : ∀ u, u ∈ peO L n t → u ∈ peO L n r := fun u hu => by
        obtain ⟨q, hq, rfl⟩ := peO_mem hu
        exact mem_later (by omega)
      have h4 : (v : Int) ∉ peO L n t := fun c => this (hsub _ c)
      simp [out, h4]
  · rintro ⟨C, hC, hCv⟩
    by_cases c : k ≤ peM L n (r + 1)
    · exact c
    · exfalso
      have := hC.low (r := r + 1) (by omega) (by omega) v hCv
      exact this (by rw [hvr]; exact mem_later (by omega))
theorem peC_le {v : Nat} (hv : v < n) : 0 ≤ (peC L n n).getD v 0 ∧ (peC L n n).getD v 0 ≤ peM L n n := by
  obtain ⟨r, hr, hvr⟩ := peO_mem (peO_all (L := L) hv)
  have hc := peC_get (L := L) (n := n) (s := n) (Nat.le_refl _) r hr
  rw [← hvr, Int.toNat_natCast] at hc
  rw [hc]
  exact ⟨peM_nonneg _, peM_le (by omega)⟩
theorem peC_top (hn : 0 < n) : ∃ v, v < n ∧ (peC L n n).getD v 0 = peM L n n := by
  obtain ⟨m, rfl⟩ : ∃ m, n = m + 1 := ⟨n - 1, by omega⟩
  have hp := pk_ok (L := L) (n := m + 1) (r := m) (by omega)
  exact ⟨(pk L (peO L (m + 1) m) (m + 1)).toNat, by omega, peC_get (Nat.le_refl _) m (by omega)⟩
def degF (L : List (Int × Int)) (v : Int) (i : Nat) : Int := sumTo (fun k => if (ed L k).1 = v ∨ (ed L k).2 = v then 1 else 0) i
theorem degF_all {v : Int} : degF L v L.length = nbP L (out []) v := by
  unfold degF nbP
  refine sumTo_congr fun k _ => ?_
  simp [out]
theorem degF_le {v : Int} {i : Nat} : 0 ≤ degF L v i ∧ degF L v i ≤ i := by
  have h := sumTo_le (f := fun k => if (ed L k).1 = v ∨ (ed L k).2 = v then 1 else 0) (g := fun _ => 1) (n := i) fun k _ => by split <;> decide
  have h0 := sumTo_le (f := fun _ => 0) (g := fun k => if (ed L k).1 = v ∨ (ed L k).2 = v then 1 else 0) (n := i) fun k _ => by split <;> decide
  have h2 : ∀ n : Nat, sumTo (fun _ => 1) n = n := by
    intro n
    induction n with
    | zero => rfl
    | succ n ih => rw [sumTo, ih]; omega
  rw [h2] at h
  rw [sumTo_zero] at h0
  exact ⟨h0, h⟩
theorem cntU_le {v : Int} : ∀ {A : List (Int × Int)}, 0 ≤ cntU v A ∧ cntU v A ≤ A.length
  | [] => by simp [cntU]
  | x :: A => by
    have := cntU_le (v := v) (A := A)
    rw [cntU, List.length_cons]; split <;> omega
theorem nb_len {v : Int} : ∀ {m : Nat}, (nb L v m).length ≤ m
  | 0 => Nat.le_refl _
  | m + 1 => by
    have := nb_len (v := v) (m := m)
    rw [nb, List.length_append]
    split
    · simp; omega
    · split <;> simp <;> omega
end
end Go.Proofs.Ytibegggcinonkaa
