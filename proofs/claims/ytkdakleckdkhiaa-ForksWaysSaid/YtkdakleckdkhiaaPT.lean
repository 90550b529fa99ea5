/- forks: trees, plain: texts, vectors, turns, mirrored trees. -/
import Derived.Test.YtkdakleckdkhiaaRows
namespace Go.Proofs.Ytkdakleckdkhiaa
abbrev Str := List UInt8
inductive T where
  | lf
  | nd (l r : T)
deriving DecidableEq
def T.size : T → Nat
  | .lf => 0
  | .nd l r => 1 + l.size + r.size
def T.text : T → Str
  | .lf => [46]
  | .nd l r => [40] ++ l.text ++ r.text ++ [41]
theorem T.text_len : ∀ x : T, x.text.length = 3 * x.size + 1
  | .lf => rfl
  | .nd l r => by simp [text, size, text_len l, text_len r]; omega
theorem T.text_ne (x : T) : x.text ≠ [] := by cases x <;> simp [text]
theorem text_pre : ∀ (t t' : T) (a a' : Str), t.text ++ a = t'.text ++ a' → t = t' ∧ a = a'
  | .lf, .lf, a, a', h => by simpa [T.text] using h
  | .lf, .nd l r, a, a', h => by simp [T.text] at h
  | .nd l r, .lf, a, a', h => by simp [T.text] at h
  | .nd l r, .nd l' r', a, a', h => by
    simp only [T.text, List.append_assoc, List.cons_append, List.nil_append, List.cons.injEq, true_and] at h
    obtain ⟨rfl, h2⟩ := text_pre l l' _ _ h
    obtain ⟨rfl, h3⟩ := text_pre r r' _ _ h2
    simpa using h3
theorem text_inj {t t' : T} (h : t.text = t'.text) : t = t' := (text_pre t t' [] [] (by simpa using h)).1
theorem text_nd_cons {l r : T} {c : UInt8} {s a : Str} (h : c :: s = (T.nd l r).text ++ a) : c = 40 ∧ s = l.text ++ (r.text ++ 41 :: a) := by
  simp only [T.text, List.append_assoc, List.cons_append, List.nil_append, List.cons.injEq] at h
  exact ⟨h.1, by simpa using h.2⟩
theorem text_nd_app (l r : T) (a : Str) : (T.nd l r).text ++ a = 40 :: (l.text ++ (r.text ++ 41 :: a)) := by simp [T.text]
/-- A string is a tree of at most ten forks. -/
def IsT (s : Str) : Prop := ∃ t : T, s = t.text ∧ t.size ≤ 10

def T.vec : T → List Int
  | .lf => []
  | .nd l r => l.vec ++ (r.size : Int) :: r.vec
theorem T.vec_len : ∀ x : T, x.vec.length = x.size
  | .lf => rfl
  | .nd l r => by simp [vec, size, vec_len l, vec_len r]; omega
theorem T.vec_get_lt {l r : T} {i : Nat} (h : i < l.size) : (T.nd l r).vec.getD i 0 = l.vec.getD i 0 := by
  simp only [vec, List.getD_eq_getElem?_getD]
  rw [List.getElem?_append_left (by rw [vec_len]; exact h)]
theorem T.vec_get_mid {l r : T} : (T.nd l r).vec.getD l.size 0 = r.size := by
  simp only [vec, List.getD_eq_getElem?_getD]
  rw [List.getElem?_append_right (by rw [vec_len]; exact Nat.le_refl _), vec_len]
  simp
theorem T.vec_get_gt {l r : T} {i : Nat} (h : l.size < i) : (T.nd l r).vec.getD i 0 = r.vec.getD (i - l.size - 1) 0 := by
  simp only [vec, List.getD_eq_getElem?_getD]
  rw [List.getElem?_append_right (by rw [vec_len]; omega), vec_len, show i - l.size = (i - l.size - 1) + 1 by omega]
  simp
theorem T.vec_bnd : ∀ (x : T) (i : Nat), i < x.size → 0 ≤ x.vec.getD i 0 ∧ (i : Int) + x.vec.getD i 0 ≤ x.size - 1
  | .lf, i, h => by simp [size] at h
  | .nd l r, i, h => by
    simp only [size] at h ⊢
    rcases Nat.lt_trichotomy i l.size with h1 | h1 | h1
    · have := vec_bnd l i h1; rw [vec_get_lt h1]; omega
    · subst h1; rw [vec_get_mid]; omega
    · have := vec_bnd r (i - l.size - 1) (by omega); rw [vec_get_gt h1]; omega
/-- What lies within a right part reaches no further. -/
theorem T.vec_nest : ∀ (x : T) (i j : Nat), i < j → (j : Int) ≤ i + x.vec.getD i 0 → i < x.size → (j : Int) + x.vec.getD j 0 ≤ i + x.vec.getD i 0
  | .lf, i, j, _, _, h => by simp [size] at h
  | .nd l r, i, j, hij, hj, h => by
    simp only [size] at h
    rcases Nat.lt_trichotomy i l.size with h1 | h1 | h1
    · have hb := vec_bnd l i h1
      rw [vec_get_lt h1] at hj ⊢
      have hjl : j < l.size := by omega
      rw [vec_get_lt hjl]
      exact vec_nest l i j hij hj h1
    · subst h1
      rw [vec_get_mid] at hj ⊢
      rw [vec_get_gt hij]
      have := vec_bnd r (j - l.size - 1) (by omega)
      omega
    · rw [vec_get_gt h1] at hj ⊢
      rw [vec_get_gt (by omega)]
      have := vec_nest r (i - l.size - 1) (j - l.size - 1) (by omega) (by omega) (by omega)
      omega
def IsVec (v : List Int) : Prop := (∀ i, i < v.length → 0 ≤ v.getD i 0 ∧ (i : Int) + v.getD i 0 ≤ v.length - 1) ∧
  ∀ i j, i < j → i < v.length → (j : Int) ≤ i + v.getD i 0 → (j : Int) + v.getD j 0 ≤ i + v.getD i 0
theorem isVec_vec (x : T) : IsVec x.vec := by
  refine ⟨fun i hi => ?_, fun i j hij hi hj => ?_⟩
  · rw [x.vec_len] at hi ⊢; exact x.vec_bnd i hi
  · rw [x.vec_len] at hi; exact x.vec_nest i j hij hj hi
/-- The first position whose right part reaches to the end. -/
def firstAt (v : List Int) : Option Nat := (List.range v.length).find? fun i => decide ((i : Int) + v.getD i 0 = v.length - 1)
theorem firstAt_some {v : List Int} {i : Nat} : firstAt v = some i ↔ i < v.length ∧ (i : Int) + v.getD i 0 = v.length - 1 ∧ ∀ j, j < i → (j : Int) + v.getD j 0 ≠ v.length - 1 := by
  unfold firstAt
  rw [List.find?_range_eq_some]
  simp only [decide_eq_true_eq, List.mem_range, Bool.not_eq_eq_eq_not, Bool.not_true, decide_eq_false_iff_not]
  constructor
  · rintro ⟨h1, h2, h3⟩; exact ⟨h2, h1, h3⟩
  · rintro ⟨h1, h2, h3⟩; exact ⟨h2, h1, h3⟩
theorem firstAt_none {v : List Int} : firstAt v = none ↔ ∀ i, i < v.length → (i : Int) + v.getD i 0 ≠ v.length - 1 := by
  unfold firstAt
  simp
def gr (v : List Int) : T :=
  match h : firstAt v with
  | some i => .nd (gr (v.take i)) (gr (v.drop (i + 1)))
  | none => .lf
termination_by v.length
decreasing_by
  all_goals
    have := (firstAt_some.1 h).1
    simp
    omega
theorem gr_some {v : List Int} {i : Nat} (h : firstAt v = some i) : gr v = .nd (gr (v.take i)) (gr (v.drop (i + 1))) := by
  rw [gr]; split
  · rename_i j hj; rw [h] at hj; cases hj; rfl
  · rename_i hj; rw [h] at hj; cases hj
theorem gr_none {v : List Int} (h : firstAt v = none) : gr v = .lf := by
  rw [gr]; split
  · rename_i j hj; rw [h] at hj; cases hj
  · rfl
theorem gr_size_le (v : List Int) : (gr v).size ≤ v.length := by
  induction hn : v.length using Nat.strongRecOn generalizing v with
  | _ n ih =>
    cases h : firstAt v with
    | none => rw [gr_none h]; simp [T.size]
    | some i =>
      have hi := (firstAt_some.1 h).1
      rw [gr_some h]
      have h1 := ih (v.take i).length (by simp; omega) _ rfl
      have h2 := ih (v.drop (i + 1)).length (by simp; omega) _ rfl
      simp only [T.size, List.length_take, List.length_drop] at *
      omega
theorem first_vec (l r : T) : firstAt (T.nd l r).vec = some l.size := by
  rw [firstAt_some, T.vec_len]
  refine ⟨by simp [T.size]; omega, by rw [T.vec_get_mid]; simp [T.size]; omega, fun j hj => ?_⟩
  rw [T.vec_get_lt hj]
  have := l.vec_bnd j hj
  simp only [T.size]
  omega
theorem vec_take (l r : T) : (T.nd l r).vec.take l.size = l.vec := by
  simp only [T.vec]; rw [List.take_append_of_le_length (by rw [T.vec_len]; exact Nat.le_refl _), List.take_of_length_le (by rw [T.vec_len]; exact Nat.le_refl _)]
theorem vec_drop (l r : T) : (T.nd l r).vec.drop (l.size + 1) = r.vec := by
  simp only [T.vec]; rw [List.drop_append, List.drop_eq_nil_of_le (by rw [T.vec_len]; omega), T.vec_len, show l.size + 1 - l.size = 1 by omega]; simp
theorem gr_vec : ∀ x : T, gr x.vec = x
  | .lf => gr_none (by rfl)
  | .nd l r => by rw [gr_some (first_vec l r), vec_take, vec_drop, gr_vec l, gr_vec r]
theorem vec_inj {x y : T} (h : x.vec = y.vec) : x = y := by rw [← gr_vec x, h, gr_vec]
theorem IsVec.take {v : List Int} {i : Nat} (h : IsVec v) (hf : firstAt v = some i) : IsVec (v.take i) := by
  obtain ⟨hi, h1, h2⟩ := firstAt_some.1 hf
  have hl : (v.take i).length = i := by simp; omega
  have hg : ∀ k, k < i → (v.take i).getD k 0 = v.getD k 0 := fun k hk => by simp [List.getD_eq_getElem?_getD, hk]
  have hin : ∀ k, k < i → (k : Int) + v.getD k 0 ≤ i - 1 := by
    intro k hk
    have hb := h.1 k (by omega)
    have hn := h2 k hk
    rcases Int.lt_or_le (k + v.getD k 0) i with hc | hc
    · omega
    · have := h.2 k i hk (by omega) (by omega); omega
  refine ⟨fun k hk => ?_, fun k j hkj hk hj => ?_⟩
  · rw [hl] at hk ⊢; rw [hg k hk]; exact ⟨(h.1 k (by omega)).1, hin k hk⟩
  · rw [hl] at hk; rw [hg k hk] at hj ⊢
    have := hin k hk
    rw [hg j (by omega)]
    exact h.2 k j hkj (by omega) hj
theorem IsVec.drop {v : List Int} {i : Nat} (h : IsVec v) (hi : i < v.length) : IsVec (v.drop (i + 1)) := by
  have hl : (v.drop (i + 1)).length = v.length - (i + 1) := by simp
  have hg : ∀ k, (v.drop (i + 1)).getD k 0 = v.getD (k + (i + 1)) 0 := fun k => by simp [List.getD_eq_getElem?_getD, List.getElem?_drop, Nat.add_comm]
  refine ⟨fun k hk => ?_, fun k j hkj hk hj => ?_⟩
  · rw [hl] at hk ⊢; rw [hg]; have := h.1 (k + (i + 1)) (by omega); omega
  · rw [hl] at hk; rw [hg] at hj ⊢; rw [hg]
    have := h.2 (k + (i + 1)) (j + (i + 1)) (by omega) (by omega) (by omega); omega
theorem IsVec.first {v : List Int} (h : IsVec v) (hv : v ≠ []) : ∃ i, firstAt v = some i := by
  cases hf : firstAt v with
  | some i => exact ⟨i, rfl⟩
  | none =>
    have hl : 0 < v.length := List.length_pos_iff.2 hv
    have := firstAt_none.1 hf (v.length - 1) (by omega)
    have := h.1 (v.length - 1) (by omega)
    omega
theorem vec_of_parts {v : List Int} {i : Nat} {a b : T} (hi : i < v.length) (h1 : (i : Int) + v.getD i 0 = v.length - 1) (ha : a.vec = v.take i) (hb : b.vec = v.drop (i + 1)) : (T.nd a b).vec = v := by
  have hbl : (b.size : Int) = v.getD i 0 := by
    have := congrArg List.length hb
    rw [T.vec_len] at this
    simp at this
    omega
  show a.vec ++ (b.size : Int) :: b.vec = v
  rw [hbl, ha, hb, List.getD_eq_getElem?_getD, List.getElem?_eq_getElem hi, Option.getD_some, List.getElem_cons_drop, List.take_append_drop]
theorem IsVec.vec_gr {v : List Int} (h : IsVec v) : (gr v).vec = v := by
  induction hn : v.length using Nat.strongRecOn generalizing v with
  | _ n ih =>
    by_cases hv : v = []
    · subst hv; rw [gr_none (by rfl)]; rfl
    · obtain ⟨i, hf⟩ := h.first hv
      obtain ⟨hi, h1, h2⟩ := firstAt_some.1 hf
      rw [gr_some hf]
      exact vec_of_parts hi h1 (ih (v.take i).length (by simp; omega) (h.take hf) rfl) (ih (v.drop (i + 1)).length (by simp; omega) (h.drop hi) rfl)
/-- A list is the vector of a tree. -/
def OkV (v : List Int) : Prop := ∃ t : T, t.vec = v
theorem okV_iff {v : List Int} : OkV v ↔ (gr v).vec = v := ⟨fun ⟨t, ht⟩ => by rw [← ht, gr_vec], fun h => ⟨_, h⟩⟩
theorem okV_isVec {v : List Int} : OkV v ↔ IsVec v := ⟨fun ⟨t, ht⟩ => ht ▸ isVec_vec t, fun h => ⟨_, h.vec_gr⟩⟩
theorem okV_split {v : List Int} {i : Nat} (hf : firstAt v = some i) : OkV v ↔ OkV (v.take i) ∧ OkV (v.drop (i + 1)) := by
  obtain ⟨hi, h1, h2⟩ := firstAt_some.1 hf
  constructor
  · intro h
    have h := okV_isVec.1 h
    exact ⟨okV_isVec.2 (h.take hf), okV_isVec.2 (h.drop hi)⟩
  · rintro ⟨⟨a, ha⟩, ⟨b, hb⟩⟩
    exact ⟨.nd a b, vec_of_parts hi h1 ha hb⟩
theorem okV_none {v : List Int} (hf : firstAt v = none) (hv : v ≠ []) : ¬ OkV v := fun h => by
  obtain ⟨i, hi⟩ := (okV_isVec.1 h).first hv
  rw [hf] at hi; cases hi

/- The order. -/
def leV (v w : List Int) : Prop := ∀ i, i < v.length → v.getD i 0 ≤ w.getD i 0
instance (v w : List Int) : Decidable (leV v w) := inferInstanceAs (Decidable (∀ i, i < v.length → _))
def T.le (x y : T) : Prop := leV x.vec y.vec
instance (x y : T) : Decidable (x.le y) := inferInstanceAs (Decidable (leV _ _))
theorem leV_refl (v : List Int) : leV v v := fun _ _ => Int.le_refl _
theorem leV_trans {u v w : List Int} (hl : u.length = v.length) (h : leV u v) (h' : leV v w) : leV u w := fun i hi => Int.le_trans (h i hi) (h' i (by omega))
theorem leV_anti {v w : List Int} (hl : v.length = w.length) (h : leV v w) (h' : leV w v) : v = w := by
  apply List.ext_getElem hl
  intro i h1 h2
  have a := h i h1
  have b := h' i h2
  simp only [List.getD_eq_getElem?_getD, List.getElem?_eq_getElem h1, List.getElem?_eq_getElem h2, Option.getD_some] at a b
  omega
def minV (v w : List Int) : List Int := List.zipWith min v w
theorem minV_len {v w : List Int} (hl : v.length = w.length) : (minV v w).length = v.length := by simp [minV, hl]
theorem minV_get {v w : List Int} (hl : v.length = w.length) {i : Nat} (hi : i < v.length) : (minV v w).getD i 0 = min (v.getD i 0) (w.getD i 0) := by
  simp only [minV, List.getD_eq_getElem?_getD, List.getElem?_zipWith, List.getElem?_eq_getElem hi, List.getElem?_eq_getElem (hl ▸ hi : i < w.length), Option.getD_some]
theorem isVec_min {v w : List Int} (hl : v.length = w.length) (h : IsVec v) (h' : IsVec w) : IsVec (minV v w) := by
  refine ⟨fun i hi => ?_, fun i j hij hi hj => ?_⟩
  · rw [minV_len hl] at hi ⊢
    rw [minV_get hl hi]
    have := h.1 i hi
    have := h'.1 i (by omega)
    omega
  · rw [minV_len hl] at hi
    rw [minV_get hl hi] at hj ⊢
    have a := h.1 i hi
    have hjl : j < v.length := by omega
    rw [minV_get hl hjl]
    have := h.2 i j hij hi (by omega)
    have := h'.2 i j hij (by omega) (by omega)
    omega
def T.meet (x y : T) : T := gr (minV x.vec y.vec)
def T.mirror : T → T
  | .lf => .lf
  | .nd l r => .nd r.mirror l.mirror
def T.join (x y : T) : T := (x.mirror.meet y.mirror).mirror
theorem T.mirror_size : ∀ x : T, x.mirror.size = x.size
  | .lf => rfl
  | .nd l r => by simp [mirror, size, mirror_size l, mirror_size r]; omega
theorem T.mirror_mirror : ∀ x : T, x.mirror.mirror = x
  | .lf => rfl
  | .nd l r => by simp [mirror, mirror_mirror l, mirror_mirror r]
theorem meet_vec {x y : T} (h : x.size = y.size) : (x.meet y).vec = minV x.vec y.vec :=
  (isVec_min (by rw [T.vec_len, T.vec_len, h]) (isVec_vec x) (isVec_vec y)).vec_gr
theorem meet_size {x y : T} (h : x.size = y.size) : (x.meet y).size = x.size := by
  rw [← T.vec_len, meet_vec h, minV_len (by rw [T.vec_len, T.vec_len, h]), T.vec_len]
theorem join_size {x y : T} (h : x.size = y.size) : (x.join y).size = x.size := by
  unfold T.join; rw [T.mirror_size, meet_size (by rw [T.mirror_size, T.mirror_size, h]), T.mirror_size]
theorem le_refl (x : T) : x.le x := leV_refl _
theorem le_trans {x y z : T} (h : x.size = y.size) (h1 : x.le y) (h2 : y.le z) : x.le z := leV_trans (by rw [T.vec_len, T.vec_len, h]) h1 h2
theorem le_anti {x y : T} (h : x.size = y.size) (h1 : x.le y) (h2 : y.le x) : x = y := vec_inj (leV_anti (by rw [T.vec_len, T.vec_len, h]) h1 h2)
theorem meet_le1 {x y : T} (h : x.size = y.size) : (x.meet y).le x := by
  intro i hi
  rw [T.vec_len, meet_size h] at hi
  rw [meet_vec h, minV_get (by rw [T.vec_len, T.vec_len, h]) (by rw [T.vec_len]; exact hi)]
  exact Int.min_le_left _ _
theorem meet_comm (x y : T) (h : x.size = y.size) : x.meet y = y.meet x := by
  apply vec_inj
  rw [meet_vec h, meet_vec h.symm]
  unfold minV
  rw [List.zipWith_comm]
  congr 1
  funext a b
  exact Int.min_comm _ _
theorem meet_le2 {x y : T} (h : x.size = y.size) : (x.meet y).le y := by
  rw [meet_comm x y h]; exact meet_le1 h.symm
theorem le_meet {x y z : T} (h : x.size = y.size) (hz : z.size = x.size) : z.le (x.meet y) ↔ z.le x ∧ z.le y := by
  constructor
  · intro hm
    exact ⟨le_trans (by rw [hz, meet_size h]) hm (meet_le1 h), le_trans (by rw [hz, meet_size h]) hm (meet_le2 h)⟩
  · rintro ⟨h1, h2⟩ i hi
    have a := h1 i hi
    have b := h2 i hi
    rw [T.vec_len] at hi
    rw [meet_vec h, minV_get (by rw [T.vec_len, T.vec_len, h]) (by rw [T.vec_len]; omega)]
    omega
end Go.Proofs.Ytkdakleckdkhiaa
