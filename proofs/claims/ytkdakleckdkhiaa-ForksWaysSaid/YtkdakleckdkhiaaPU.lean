/- forks: turns, plain. -/
import Derived.Test.YtkdakleckdkhiaaPT
namespace Go.Proofs.Ytkdakleckdkhiaa
def T.turn : T → Nat → Bool → Option T
  | .lf, _, _ => none
  | .nd l r, at_, b =>
    if at_ < l.size then (l.turn at_ b).map fun l' => .nd l' r
    else if l.size < at_ then (r.turn (at_ - l.size - 1) b).map fun r' => .nd l r'
    else match b, l, r with
      | true, .nd a c, r => some (.nd a (.nd c r))
      | false, l, .nd c d => some (.nd (.nd l c) d)
      | _, _, _ => none
theorem turn_lt {l r : T} {k : Nat} {b : Bool} (h : k < l.size) : (T.nd l r).turn k b = (l.turn k b).map fun l' => .nd l' r := by
  simp [T.turn, h]
theorem turn_gt {l r : T} {k : Nat} {b : Bool} (h : l.size < k) : (T.nd l r).turn k b = (r.turn (k - l.size - 1) b).map fun r' => .nd l r' := by
  simp [T.turn, h, Nat.lt_asymm h]
theorem turn_eqR {a c r : T} {k : Nat} (h : k = (T.nd a c).size) : (T.nd (.nd a c) r).turn k true = some (.nd a (.nd c r)) := by
  subst h; simp [T.turn]
theorem turn_eqRn {r : T} {k : Nat} (h : k = 0) : (T.nd .lf r).turn k true = none := by
  subst h; simp [T.turn, T.size]
theorem turn_eqL {l c d : T} {k : Nat} (h : k = l.size) : (T.nd l (.nd c d)).turn k false = some (.nd (.nd l c) d) := by
  subst h; cases l <;> simp [T.turn]
theorem turn_eqLn {l : T} {k : Nat} (h : k = l.size) : (T.nd l .lf).turn k false = none := by
  subst h; cases l <;> simp [T.turn]
theorem turn_size : ∀ (x : T) (k : Nat) (b : Bool) (y : T), x.turn k b = some y → y.size = x.size
  | .lf, k, b, y, h => by simp [T.turn] at h
  | .nd l r, k, b, y, h => by
    rcases Nat.lt_trichotomy k l.size with h1 | h1 | h1
    · rw [turn_lt h1, Option.map_eq_some_iff] at h
      obtain ⟨l', hl, rfl⟩ := h
      simp [T.size, turn_size l k b l' hl]
    · cases b with
      | true =>
        cases l with
        | lf => rw [turn_eqRn h1] at h; cases h
        | nd a c => rw [turn_eqR h1] at h; cases h; simp [T.size]; omega
      | false =>
        cases r with
        | lf => rw [turn_eqLn h1] at h; cases h
        | nd c d => rw [turn_eqL h1] at h; cases h; simp [T.size]; omega
    · rw [turn_gt h1, Option.map_eq_some_iff] at h
      obtain ⟨r', hr, rfl⟩ := h
      simp [T.size, turn_size r _ b r' hr]
/-- Turning back: the other way, at some fork. -/
theorem turn_back : ∀ (x : T) (k : Nat) (b : Bool) (y : T), k < x.size → x.turn k b = some y → ∃ j, j < x.size ∧ y.turn j (!b) = some x
  | .lf, k, b, y, hk, h => by simp [T.turn] at h
  | .nd l r, k, b, y, hk, h => by
    have hsz := turn_size _ _ _ _ h
    simp only [T.size] at hk
    rcases Nat.lt_trichotomy k l.size with h1 | h1 | h1
    · rw [turn_lt h1, Option.map_eq_some_iff] at h
      obtain ⟨l', hl, rfl⟩ := h
      obtain ⟨j, hj, hb⟩ := turn_back l k b l' h1 hl
      have := turn_size _ _ _ _ hl
      exact ⟨j, by simp only [T.size]; omega, by rw [turn_lt (by omega), hb]; rfl⟩
    · cases b with
      | true =>
        cases l with
        | lf => rw [turn_eqRn h1] at h; cases h
        | nd a c =>
          rw [turn_eqR h1] at h; cases h
          exact ⟨a.size, by simp only [T.size]; omega, turn_eqL rfl⟩
      | false =>
        cases r with
        | lf => rw [turn_eqLn h1] at h; cases h
        | nd c d =>
          rw [turn_eqL h1] at h; cases h
          exact ⟨(T.nd l c).size, by simp only [T.size]; omega, turn_eqR rfl⟩
    · rw [turn_gt h1, Option.map_eq_some_iff] at h
      obtain ⟨r', hr, rfl⟩ := h
      obtain ⟨j, hj, hb⟩ := turn_back r _ b r' (by omega) hr
      exact ⟨l.size + 1 + j, by simp only [T.size]; omega, by rw [turn_gt (by omega), show l.size + 1 + j - l.size - 1 = j by omega, hb]; rfl⟩
theorem turn_mirror : ∀ (x : T) (k : Nat) (b : Bool) (y : T), k < x.size → x.turn k b = some y → x.mirror.turn (x.size - 1 - k) (!b) = some y.mirror
  | .lf, k, b, y, hk, h => by simp [T.turn] at h
  | .nd l r, k, b, y, hk, h => by
    have hml := T.mirror_size l
    have hmr := T.mirror_size r
    simp only [T.size] at hk ⊢
    rcases Nat.lt_trichotomy k l.size with h1 | h1 | h1
    · rw [turn_lt h1, Option.map_eq_some_iff] at h
      obtain ⟨l', hl, rfl⟩ := h
      have hb := turn_mirror l k b l' h1 hl
      simp only [T.mirror]
      rw [turn_gt (by omega), show 1 + l.size + r.size - 1 - k - r.mirror.size - 1 = l.size - 1 - k by omega, hb]; rfl
    · cases b with
      | true =>
        cases l with
        | lf => rw [turn_eqRn h1] at h; cases h
        | nd a c =>
          rw [turn_eqR h1] at h; cases h
          simp only [T.mirror]
          exact turn_eqL (by omega)
      | false =>
        cases r with
        | lf => rw [turn_eqLn h1] at h; cases h
        | nd c d =>
          rw [turn_eqL h1] at h; cases h
          simp only [T.mirror] at *
          exact turn_eqR (by omega)
    · rw [turn_gt h1, Option.map_eq_some_iff] at h
      obtain ⟨r', hr, rfl⟩ := h
      have hb := turn_mirror r _ b r' (by omega) hr
      simp only [T.mirror]
      rw [turn_lt (by omega), show 1 + l.size + r.size - 1 - k = r.size - 1 - (k - l.size - 1) by omega, hb]; rfl
/-- What a right turn does to the vector: the entry of the left child grows. -/
theorem turn_vec : ∀ (x : T) (k : Nat) (y : T), k < x.size → x.turn k true = some y → ∃ q, q < k ∧ (k : Int) = q + x.vec.getD q 0 + 1 ∧ y.vec = x.vec.set q (x.vec.getD q 0 + 1 + x.vec.getD k 0)
  | .lf, k, y, hk, h => by simp [T.turn] at h
  | .nd l r, k, y, hk, h => by
    simp only [T.size] at hk
    rcases Nat.lt_trichotomy k l.size with h1 | h1 | h1
    · rw [turn_lt h1, Option.map_eq_some_iff] at h
      obtain ⟨l', hl, rfl⟩ := h
      obtain ⟨q, hq, hk2, hv⟩ := turn_vec l k l' h1 hl
      refine ⟨q, hq, ?_, ?_⟩
      · rw [T.vec_get_lt (by omega)]; exact hk2
      · rw [T.vec_get_lt (by omega), T.vec_get_lt h1]
        simp only [T.vec]
        rw [hv, List.set_append_left _ _ (by rw [T.vec_len]; omega)]
    · cases l with
      | lf => rw [turn_eqRn h1] at h; cases h
      | nd a c =>
        rw [turn_eqR h1] at h; cases h
        simp only [T.size] at h1
        refine ⟨a.size, by omega, ?_, ?_⟩
        · rw [T.vec_get_lt (by simp only [T.size]; omega), T.vec_get_mid]; omega
        · rw [T.vec_get_lt (by simp only [T.size]; omega), T.vec_get_mid, show k = (T.nd a c).size by simp only [T.size]; omega, T.vec_get_mid]
          simp only [T.vec, List.append_assoc, List.cons_append]
          rw [List.set_append_right _ _ (by rw [T.vec_len]; exact Nat.le_refl _), T.vec_len, Nat.sub_self, List.set_cons_zero]
          congr 2
          simp only [T.size]; omega
    · rw [turn_gt h1, Option.map_eq_some_iff] at h
      obtain ⟨r', hr, rfl⟩ := h
      obtain ⟨q, hq, hk2, hv⟩ := turn_vec r _ r' (by omega) hr
      refine ⟨l.size + 1 + q, by omega, ?_, ?_⟩
      · rw [T.vec_get_gt (by omega), show l.size + 1 + q - l.size - 1 = q by omega]; omega
      · rw [T.vec_get_gt (by omega), T.vec_get_gt h1, show l.size + 1 + q - l.size - 1 = q by omega]
        simp only [T.vec]
        rw [hv, turn_size _ _ _ _ hr, List.set_append_right _ _ (by rw [T.vec_len]; omega), T.vec_len, show l.size + 1 + q - l.size = q + 1 by omega, List.set_cons_succ]
/-- A right turn that makes the first entry q with p = q + v(q) + 1 greater. -/
theorem turn_at : ∀ (x : T) (q p : Nat), p < x.size → (p : Int) = q + x.vec.getD q 0 + 1 → q < p → (∀ q', q' < q → (p : Int) ≠ q' + x.vec.getD q' 0 + 1) → ∃ y, x.turn p true = some y
  | .lf, q, p, hp, _, _, _ => by simp [T.size] at hp
  | .nd l r, q, p, hp, he, hqp, hm => by
    simp only [T.size] at hp
    rcases Nat.lt_trichotomy p l.size with h1 | h1 | h1
    · have he2 : (p : Int) = q + l.vec.getD q 0 + 1 := by rw [T.vec_get_lt (by omega)] at he; exact he
      obtain ⟨y, hy⟩ := turn_at l q p h1 he2 hqp fun q' hq' => by have := hm q' hq'; rw [T.vec_get_lt (by omega)] at this; exact this
      exact ⟨_, by rw [turn_lt h1, hy]; rfl⟩
    · cases l with
      | lf => simp only [T.size] at h1; omega
      | nd a c => exact ⟨_, turn_eqR h1⟩
    · have hql : l.size < q := by
        rcases Nat.lt_trichotomy q l.size with h2 | h2 | h2
        · rw [T.vec_get_lt h2] at he
          have := l.vec_bnd q h2
          omega
        · subst h2; rw [T.vec_get_mid] at he; omega
        · exact h2
      have he2 : ((p - l.size - 1 : Nat) : Int) = ((q - l.size - 1 : Nat) : Int) + r.vec.getD (q - l.size - 1) 0 + 1 := by rw [T.vec_get_gt hql] at he; omega
      obtain ⟨y, hy⟩ := turn_at r (q - l.size - 1) (p - l.size - 1) (by omega) he2 (by omega) fun q' hq' => by
        have := hm (l.size + 1 + q') (by omega)
        rw [T.vec_get_gt (by omega), show l.size + 1 + q' - l.size - 1 = q' by omega] at this
        omega
      exact ⟨_, by rw [turn_gt h1, hy]; rfl⟩
theorem getD_set (v : List Int) (q i : Nat) (a : Int) (hq : q < v.length) : (v.set q a).getD i 0 = if i = q then a else v.getD i 0 := by
  simp only [List.getD_eq_getElem?_getD, List.getElem?_set]
  by_cases h : i = q
  · subst h; simp [hq]
  · rw [if_neg (Ne.symm h), if_neg h]
/-- A right turn leads up. -/
theorem turn_le {x y : T} {k : Nat} (hk : k < x.size) (h : x.turn k true = some y) : x.le y ∧ x ≠ y := by
  obtain ⟨q, hq, he, hv⟩ := turn_vec x k y hk h
  have hb := (x.vec_bnd k hk).1
  have hbq := (x.vec_bnd q (by omega)).1
  refine ⟨fun i hi => ?_, fun e => ?_⟩
  · rw [hv, getD_set _ _ _ _ (by rw [T.vec_len]; omega)]
    split
    · rename_i h; subst h; omega
    · exact Int.le_refl _
  · subst e
    have := congrArg (fun v : List Int => v.getD q 0) hv
    simp only [getD_set _ _ _ _ (show q < x.vec.length by rw [T.vec_len]; omega), if_true] at this
    omega
/-- Below another tree, a right turn leads to one that is below it, too. -/
theorem turn_toward {x y : T} (hs : x.size = y.size) (h : x.le y) (hn : x ≠ y) : ∃ k z, k < x.size ∧ x.turn k true = some z ∧ z.le y := by
  have hlt : ∃ q, q < x.size ∧ x.vec.getD q 0 < y.vec.getD q 0 := by
    refine Classical.byContradiction fun hc => hn (le_anti hs h fun i hi => ?_)
    rw [T.vec_len] at hi
    have : ¬ x.vec.getD i 0 < y.vec.getD i 0 := fun hh => hc ⟨i, by omega, hh⟩
    omega
  obtain ⟨q, ⟨hq, hlt⟩, hmin⟩ : ∃ q, (q < x.size ∧ x.vec.getD q 0 < y.vec.getD q 0) ∧ ∀ q', q' < q → ¬ (q' < x.size ∧ x.vec.getD q' 0 < y.vec.getD q' 0) := by
    obtain ⟨n, hn⟩ := hlt
    induction n using Nat.strongRecOn with
    | _ n ih =>
      by_cases hk : ∃ k, k < n ∧ (k < x.size ∧ x.vec.getD k 0 < y.vec.getD k 0)
      · obtain ⟨k, hlt, hp⟩ := hk; exact ih k hlt hp
      · exact ⟨n, hn, fun k hk' hp => hk ⟨k, hk', hp⟩⟩
  have hbx := x.vec_bnd q hq
  have hby := y.vec_bnd q (by omega)
  obtain ⟨p, hp⟩ : ∃ p : Nat, (p : Int) = q + x.vec.getD q 0 + 1 := ⟨(q + x.vec.getD q 0 + 1).toNat, by omega⟩
  have hpx : p < x.size := by omega
  obtain ⟨z, hz⟩ := turn_at x q p hpx hp (by omega) fun q' hq' he => by
    have hbx' := x.vec_bnd q' (by omega)
    have hle := h q' (by rw [T.vec_len]; omega)
    have hn := y.vec_nest q' q hq' (by omega) (by omega)
    exact hmin q' hq' ⟨by omega, by omega⟩
  refine ⟨p, z, hpx, hz, ?_⟩
  obtain ⟨q2, hq2, he2, hv⟩ := turn_vec x p z hpx hz
  -- the entry that grows is the first one that reaches to p
  have hq2q : q2 = q := by
    have hbx2 := x.vec_bnd q2 (by omega)
    rcases Nat.lt_trichotomy q2 q with h1 | h1 | h1
    · exfalso
      have hle := h q2 (by rw [T.vec_len]; omega)
      have hn := y.vec_nest q2 q h1 (by omega) (by omega)
      exact hmin q2 h1 ⟨by omega, by omega⟩
    · exact h1
    · exfalso
      -- q is in no left part of p's left child: the turned tree is a tree
      have hz2 := z.vec_nest q q2 h1
      rw [hv, getD_set _ _ _ _ (by rw [T.vec_len]; omega), getD_set _ _ _ _ (by rw [T.vec_len]; omega), if_neg (by omega), if_pos rfl] at hz2
      have hzs := turn_size _ _ _ _ hz
      have hbp := x.vec_bnd p hpx
      have := hz2 (by omega) (by omega)
      omega
  subst hq2q
  intro i hi
  rw [T.vec_len, turn_size _ _ _ _ hz] at hi
  rw [hv, getD_set _ _ _ _ (by rw [T.vec_len]; omega)]
  split
  · rename_i e; subst e
    have hn := y.vec_nest i p (by omega) (by omega) (by omega)
    have hle := h p (by rw [T.vec_len]; omega)
    omega
  · exact h i (by rw [T.vec_len]; exact hi)
end Go.Proofs.Ytkdakleckdkhiaa
