/- forks: trees, plain: texts, vectors, turns, mirrored trees; forks: turns, plain; forks: the order and the ways, plain; forks: all trees; the search of the shortest way, plain; forks: all trees with n forks in ascending order, plain; top: seals, plain: counts, cuts, the fewest fair ones. -/
import Derived.Test.YtocgehoffdjijaaGreatRows
/- forks: trees, plain: texts, vectors, turns, mirrored trees. -/
namespace Go.Proofs.YtocgehoffdjijaaGreat
abbrev Str := List UInt8
inductive T where
  | lf
  | nd (l r : T)
deriving DecidableEq
def T.size : T → Nat
  | .lf => 0
  | .nd l r => 1 + l.size + r.size
def T.text : T → Str
  | .lf => [46]
  | .nd l r => [40] ++ l.text ++ r.text ++ [41]
theorem T.text_len : ∀ x : T, x.text.length = 3 * x.size + 1
  | .lf => rfl
  | .nd l r => by simp [text, size, text_len l, text_len r]; omega
theorem T.text_ne (x : T) : x.text ≠ [] := by cases x <;> simp [text]
theorem text_pre : ∀ (t t' : T) (a a' : Str), t.text ++ a = t'.text ++ a' → t = t' ∧ a = a'
  | .lf, .lf, a, a', h => by simpa [T.text] using h
  | .lf, .nd l r, a, a', h => by simp [T.text] at h
  | .nd l r, .lf, a, a', h => by simp [T.text] at h
  | .nd l r, .nd l' r', a, a', h => by
    simp only [T.text, List.append_assoc, List.cons_append, List.nil_append, List.cons.injEq, true_and] at h
    obtain ⟨rfl, h2⟩ := text_pre l l' _ _ h
    obtain ⟨rfl, h3⟩ := text_pre r r' _ _ h2
    simpa using h3
theorem text_inj {t t' : T} (h : t.text = t'.text) : t = t' := (text_pre t t' [] [] (by simpa using h)).1
theorem text_nd_cons {l r : T} {c : UInt8} {s a : Str} (h : c :: s = (T.nd l r).text ++ a) : c = 40 ∧ s = l.text ++ (r.text ++ 41 :: a) := by
  simp only [T.text, List.append_assoc, List.cons_append, List.nil_append, List.cons.injEq] at h
  exact ⟨h.1, by simpa using h.2⟩
theorem text_nd_app (l r : T) (a : Str) : (T.nd l r).text ++ a = 40 :: (l.text ++ (r.text ++ 41 :: a)) := by simp [T.text]
/-- A string is a tree of at most ten forks. -/
def IsT (s : Str) : Prop := ∃ t : T, s = t.text ∧ t.size ≤ 10

def T.vec : T → List Int
  | .lf => []
  | .nd l r => l.vec ++ (r.size : Int) :: r.vec
theorem T.vec_len : ∀ x : T, x.vec.length = x.size
  | .lf => rfl
  | .nd l r => by simp [vec, size, vec_len l, vec_len r]; omega
theorem T.vec_get_lt {l r : T} {i : Nat} (h : i < l.size) : (T.nd l r).vec.getD i 0 = l.vec.getD i 0 := by
  simp only [vec, List.getD_eq_getElem?_getD]
  rw [List.getElem?_append_left (by rw [vec_len]; exact h)]
theorem T.vec_get_mid {l r : T} : (T.nd l r).vec.getD l.size 0 = r.size := by
  simp only [vec, List.getD_eq_getElem?_getD]
  rw [List.getElem?_append_right (by rw [vec_len]; exact Nat.le_refl _), vec_len]
  simp
theorem T.vec_get_gt {l r : T} {i : Nat} (h : l.size < i) : (T.nd l r).vec.getD i 0 = r.vec.getD (i - l.size - 1) 0 := by
  simp only [vec, List.getD_eq_getElem?_getD]
  rw [List.getElem?_append_right (by rw [vec_len]; omega), vec_len, show i - l.size = (i - l.size - 1) + 1 by omega]
  simp
theorem T.vec_bnd : ∀ (x : T) (i : Nat), i < x.size → 0 ≤ x.vec.getD i 0 ∧ (i : Int) + x.vec.getD i 0 ≤ x.size - 1
  | .lf, i, h => by simp [size] at h
  | .nd l r, i, h => by
    simp only [size] at h ⊢
    rcases Nat.lt_trichotomy i l.size with h1 | h1 | h1
    · have := vec_bnd l i h1; rw [vec_get_lt h1]; omega
    · subst h1; rw [vec_get_mid]; omega
    · have := vec_bnd r (i - l.size - 1) (by omega); rw [vec_get_gt h1]; omega
/-- What lies within a right part reaches no further. -/
theorem T.vec_nest : ∀ (x : T) (i j : Nat), i < j → (j : Int) ≤ i + x.vec.getD i 0 → i < x.size → (j : Int) + x.vec.getD j 0 ≤ i + x.vec.getD i 0
  | .lf, i, j, _, _, h => by simp [size] at h
  | .nd l r, i, j, hij, hj, h => by
    simp only [size] at h
    rcases Nat.lt_trichotomy i l.size with h1 | h1 | h1
    · have hb := vec_bnd l i h1
      rw [vec_get_lt h1] at hj ⊢
      have hjl : j < l.size := by omega
      rw [vec_get_lt hjl]
      exact vec_nest l i j hij hj h1
    · subst h1
      rw [vec_get_mid] at hj ⊢
      rw [vec_get_gt hij]
      have := vec_bnd r (j - l.size - 1) (by omega)
      omega
    · rw [vec_get_gt h1] at hj ⊢
      rw [vec_get_gt (by omega)]
      have := vec_nest r (i - l.size - 1) (j - l.size - 1) (by omega) (by omega) (by omega)
      omega
def IsVec (v : List Int) : Prop := (∀ i, i < v.length → 0 ≤ v.getD i 0 ∧ (i : Int) + v.getD i 0 ≤ v.length - 1) ∧
  ∀ i j, i < j → i < v.length → (j : Int) ≤ i + v.getD i 0 → (j : Int) + v.getD j 0 ≤ i + v.getD i 0
theorem isVec_vec (x : T) : IsVec x.vec := by
  refine ⟨fun i hi => ?_, fun i j hij hi hj => ?_⟩
  · rw [x.vec_len] at hi ⊢; exact x.vec_bnd i hi
  · rw [x.vec_len] at hi; exact x.vec_nest i j hij hj hi
/-- The first position whose right part reaches to the end. -/
def firstAt (v : List Int) : Option Nat := (List.range v.length).find? fun i => decide ((i : Int) + v.getD i 0 = v.length - 1)
theorem firstAt_some {v : List Int} {i : Nat} : firstAt v = some i ↔ i < v.length ∧ (i : Int) + v.getD i 0 = v.length - 1 ∧ ∀ j, j < i → (j : Int) + v.getD j 0 ≠ v.length - 1 := by
  unfold firstAt
  rw [List.find?_range_eq_some]
  simp only [decide_eq_true_eq, List.mem_range, Bool.not_eq_eq_eq_not, Bool.not_true, decide_eq_false_iff_not]
  constructor
  · rintro ⟨h1, h2, h3⟩; exact ⟨h2, h1, h3⟩
  · rintro ⟨h1, h2, h3⟩; exact ⟨h2, h1, h3⟩
theorem firstAt_none {v : List Int} : firstAt v = none ↔ ∀ i, i < v.length → (i : Int) + v.getD i 0 ≠ v.length - 1 := by
  unfold firstAt
  simp
def gr (v : List Int) : T :=
  match h : firstAt v with
  | some i => .nd (gr (v.take i)) (gr (v.drop (i + 1)))
  | none => .lf
termination_by v.length
decreasing_by
  all_goals
    have := (firstAt_some.1 h).1
    simp
    omega
theorem gr_some {v : List Int} {i : Nat} (h : firstAt v = some i) : gr v = .nd (gr (v.take i)) (gr (v.drop (i + 1))) := by
  rw [gr]; split
  · rename_i j hj; rw [h] at hj; cases hj; rfl
  · rename_i hj; rw [h] at hj; cases hj
theorem gr_none {v : List Int} (h : firstAt v = none) : gr v = .lf := by
  rw [gr]; split
  · rename_i j hj; rw [h] at hj; cases hj
  · rfl
theorem gr_size_le (v : List Int) : (gr v).size ≤ v.length := by
  induction hn : v.length using Nat.strongRecOn generalizing v with
  | _ n ih =>
    cases h : firstAt v with
    | none => rw [gr_none h]; simp [T.size]
    | some i =>
      have hi := (firstAt_some.1 h).1
      rw [gr_some h]
      have h1 := ih (v.take i).length (by simp; omega) _ rfl
      have h2 := ih (v.drop (i + 1)).length (by simp; omega) _ rfl
      simp only [T.size, List.length_take, List.length_drop] at *
      omega
theorem first_vec (l r : T) : firstAt (T.nd l r).vec = some l.size := by
  rw [firstAt_some, T.vec_len]
  refine ⟨by simp [T.size]; omega, by rw [T.vec_get_mid]; simp [T.size]; omega, fun j hj => ?_⟩
  rw [T.vec_get_lt hj]
  have := l.vec_bnd j hj
  simp only [T.size]
  omega
theorem vec_take (l r : T) : (T.nd l r).vec.take l.size = l.vec := by
  simp only [T.vec]; rw [List.take_append_of_le_length (by rw [T.vec_len]; exact Nat.le_refl _), List.take_of_length_le (by rw [T.vec_len]; exact Nat.le_refl _)]
theorem vec_drop (l r : T) : (T.nd l r).vec.drop (l.size + 1) = r.vec := by
  simp only [T.vec]; rw [List.drop_append, List.drop_eq_nil_of_le (by rw [T.vec_len]; omega), T.vec_len, show l.size + 1 - l.size = 1 by omega]; simp
theorem gr_vec : ∀ x : T, gr x.vec = x
  | .lf => gr_none (by rfl)
  | .nd l r => by rw [gr_some (first_vec l r), vec_take, vec_drop, gr_vec l, gr_vec r]
theorem vec_inj {x y : T} (h : x.vec = y.vec) : x = y := by rw [← gr_vec x, h, gr_vec]
theorem IsVec.take {v : List Int} {i : Nat} (h : IsVec v) (hf : firstAt v = some i) : IsVec (v.take i) := by
  obtain ⟨hi, h1, h2⟩ := firstAt_some.1 hf
  have hl : (v.take i).length = i := by simp; omega
  have hg : ∀ k, k < i → (v.take i).getD k 0 = v.getD k 0 := fun k hk => by simp [List.getD_eq_getElem?_getD, hk]
  have hin : ∀ k, k < i → (k : Int) + v.getD k 0 ≤ i - 1 := by
    intro k hk
    have hb := h.1 k (by omega)
    have hn := h2 k hk
    rcases Int.lt_or_le (k + v.getD k 0) i with hc | hc
    · omega
    · have := h.2 k i hk (by omega) (by omega); omega
  refine ⟨fun k hk => ?_, fun k j hkj hk hj => ?_⟩
  · rw [hl] at hk ⊢; rw [hg k hk]; exact ⟨(h.1 k (by omega)).1, hin k hk⟩
  · rw [hl] at hk; rw [hg k hk] at hj ⊢
    have := hin k hk
    rw [hg j (by omega)]
    exact h.2 k j hkj (by omega) hj
theorem IsVec.drop {v : List Int} {i : Nat} (h : IsVec v) (hi : i < v.length) : IsVec (v.drop (i + 1)) := by
  have hl : (v.drop (i + 1)).length = v.length - (i + 1) := by simp
  have hg : ∀ k, (v.drop (i + 1)).getD k 0 = v.getD (k + (i + 1)) 0 := fun k => by simp [List.getD_eq_getElem?_getD, List.getElem?_drop, Nat.add_comm]
  refine ⟨fun k hk => ?_, fun k j hkj hk hj => ?_⟩
  · rw [hl] at hk ⊢; rw [hg]; have := h.1 (k + (i + 1)) (by omega); omega
  · rw [hl] at hk; rw [hg] at hj ⊢; rw [hg]
    have := h.2 (k + (i + 1)) (j + (i + 1)) (by omega) (by omega) (by omega); omega
theorem IsVec.first {v : List Int} (h : IsVec v) (hv : v ≠ []) : ∃ i, firstAt v = some i := by
  cases hf : firstAt v with
  | some i => exact ⟨i, rfl⟩
  | none =>
    have hl : 0 < v.length := List.length_pos_iff.2 hv
    have := firstAt_none.1 hf (v.length - 1) (by omega)
    have := h.1 (v.length - 1) (by omega)
    omega
theorem vec_of_parts {v : List Int} {i : Nat} {a b : T} (hi : i < v.length) (h1 : (i : Int) + v.getD i 0 = v.length - 1) (ha : a.vec = v.take i) (hb : b.vec = v.drop (i + 1)) : (T.nd a b).vec = v := by
  have hbl : (b.size : Int) = v.getD i 0 := by
    have := congrArg List.length hb
    rw [T.vec_len] at this
    simp at this
    omega
  show a.vec ++ (b.size : Int) :: b.vec = v
  rw [hbl, ha, hb, List.getD_eq_getElem?_getD, List.getElem?_eq_getElem hi, Option.getD_some, List.getElem_cons_drop, List.take_append_drop]
theorem IsVec.vec_gr {v : List Int} (h : IsVec v) : (gr v).vec = v := by
  induction hn : v.length using Nat.strongRecOn generalizing v with
  | _ n ih =>
    by_cases hv : v = []
    · subst hv; rw [gr_none (by rfl)]; rfl
    · obtain ⟨i, hf⟩ := h.first hv
      obtain ⟨hi, h1, h2⟩ := firstAt_some.1 hf
      rw [gr_some hf]
      exact vec_of_parts hi h1 (ih (v.take i).length (by simp; omega) (h.take hf) rfl) (ih (v.drop (i + 1)).length (by simp; omega) (h.drop hi) rfl)
/-- A list is the vector of a tree. -/
def OkV (v : List Int) : Prop := ∃ t : T, t.vec = v
theorem okV_iff {v : List Int} : OkV v ↔ (gr v).vec = v := ⟨fun ⟨t, ht⟩ => by rw [← ht, gr_vec], fun h => ⟨_, h⟩⟩
theorem okV_isVec {v : List Int} : OkV v ↔ IsVec v := ⟨fun ⟨t, ht⟩ => ht ▸ isVec_vec t, fun h => ⟨_, h.vec_gr⟩⟩
theorem okV_split {v : List Int} {i : Nat} (hf : firstAt v = some i) : OkV v ↔ OkV (v.take i) ∧ OkV (v.drop (i + 1)) := by
  obtain ⟨hi, h1, h2⟩ := firstAt_some.1 hf
  constructor
  · intro h
    have h := okV_isVec.1 h
    exact ⟨okV_isVec.2 (h.take hf), okV_isVec.2 (h.drop hi)⟩
  · rintro ⟨⟨a, ha⟩, ⟨b, hb⟩⟩
    exact ⟨.nd a b, vec_of_parts hi h1 ha hb⟩
theorem okV_none {v : List Int} (hf : firstAt v = none) (hv : v ≠ []) : ¬ OkV v := fun h => by
  obtain ⟨i, hi⟩ := (okV_isVec.1 h).first hv
  rw [hf] at hi; cases hi

/- The order. -/
def leV (v w : List Int) : Prop := ∀ i, i < v.length → v.getD i 0 ≤ w.getD i 0
instance (v w : List Int) : Decidable (leV v w) := inferInstanceAs (Decidable (∀ i, i < v.length → _))
def T.le (x y : T) : Prop := leV x.vec y.vec
instance (x y : T) : Decidable (x.le y) := inferInstanceAs (Decidable (leV _ _))
theorem leV_refl (v : List Int) : leV v v := fun _ _ => Int.le_refl _
theorem leV_trans {u v w : List Int} (hl : u.length = v.length) (h : leV u v) (h' : leV v w) : leV u w := fun i hi => Int.le_trans (h i hi) (h' i (by omega))
theorem leV_anti {v w : List Int} (hl : v.length = w.length) (h : leV v w) (h' : leV w v) : v = w := by
  apply List.ext_getElem hl
  intro i h1 h2
  have a := h i h1
  have b := h' i h2
  simp only [List.getD_eq_getElem?_getD, List.getElem?_eq_getElem h1, List.getElem?_eq_getElem h2, Option.getD_some] at a b
  omega
def minV (v w : List Int) : List Int := List.zipWith min v w
theorem minV_len {v w : List Int} (hl : v.length = w.length) : (minV v w).length = v.length := by simp [minV, hl]
theorem minV_get {v w : List Int} (hl : v.length = w.length) {i : Nat} (hi : i < v.length) : (minV v w).getD i 0 = min (v.getD i 0) (w.getD i 0) := by
  simp only [minV, List.getD_eq_getElem?_getD, List.getElem?_zipWith, List.getElem?_eq_getElem hi, List.getElem?_eq_getElem (hl ▸ hi : i < w.length), Option.getD_some]
theorem isVec_min {v w : List Int} (hl : v.length = w.length) (h : IsVec v) (h' : IsVec w) : IsVec (minV v w) := by
  refine ⟨fun i hi => ?_, fun i j hij hi hj => ?_⟩
  · rw [minV_len hl] at hi ⊢
    rw [minV_get hl hi]
    have := h.1 i hi
    have := h'.1 i (by omega)
    omega
  · rw [minV_len hl] at hi
    rw [minV_get hl hi] at hj ⊢
    have a := h.1 i hi
    have hjl : j < v.length := by omega
    rw [minV_get hl hjl]
    have := h.2 i j hij hi (by omega)
    have := h'.2 i j hij (by omega) (by omega)
    omega
def T.meet (x y : T) : T := gr (minV x.vec y.vec)
def T.mirror : T → T
  | .lf => .lf
  | .nd l r => .nd r.mirror l.mirror
def T.join (x y : T) : T := (x.mirror.meet y.mirror).mirror
theorem T.mirror_size : ∀ x : T, x.mirror.size = x.size
  | .lf => rfl
  | .nd l r => by simp [mirror, size, mirror_size l, mirror_size r]; omega
theorem T.mirror_mirror : ∀ x : T, x.mirror.mirror = x
  | .lf => rfl
  | .nd l r => by simp [mirror, mirror_mirror l, mirror_mirror r]
theorem meet_vec {x y : T} (h : x.size = y.size) : (x.meet y).vec = minV x.vec y.vec :=
  (isVec_min (by rw [T.vec_len, T.vec_len, h]) (isVec_vec x) (isVec_vec y)).vec_gr
theorem meet_size {x y : T} (h : x.size = y.size) : (x.meet y).size = x.size := by
  rw [← T.vec_len, meet_vec h, minV_len (by rw [T.vec_len, T.vec_len, h]), T.vec_len]
theorem join_size {x y : T} (h : x.size = y.size) : (x.join y).size = x.size := by
  unfold T.join; rw [T.mirror_size, meet_size (by rw [T.mirror_size, T.mirror_size, h]), T.mirror_size]
theorem le_refl (x : T) : x.le x := leV_refl _
theorem le_trans {x y z : T} (h : x.size = y.size) (h1 : x.le y) (h2 : y.le z) : x.le z := leV_trans (by rw [T.vec_len, T.vec_len, h]) h1 h2
theorem le_anti {x y : T} (h : x.size = y.size) (h1 : x.le y) (h2 : y.le x) : x = y := vec_inj (leV_anti (by rw [T.vec_len, T.vec_len, h]) h1 h2)
theorem meet_le1 {x y : T} (h : x.size = y.size) : (x.meet y).le x := by
  intro i hi
  rw [T.vec_len, meet_size h] at hi
  rw [meet_vec h, minV_get (by rw [T.vec_len, T.vec_len, h]) (by rw [T.vec_len]; exact hi)]
  exact Int.min_le_left _ _
theorem meet_comm (x y : T) (h : x.size = y.size) : x.meet y = y.meet x := by
  apply vec_inj
  rw [meet_vec h, meet_vec h.symm]
  unfold minV
  rw [List.zipWith_comm]
  congr 1
  funext a b
  exact Int.min_comm _ _
theorem meet_le2 {x y : T} (h : x.size = y.size) : (x.meet y).le y := by
  rw [meet_comm x y h]; exact meet_le1 h.symm
theorem le_meet {x y z : T} (h : x.size = y.size) (hz : z.size = x.size) : z.le (x.meet y) ↔ z.le x ∧ z.le y := by
  constructor
  · intro hm
    exact ⟨le_trans (by rw [hz, meet_size h]) hm (meet_le1 h), le_trans (by rw [hz, meet_size h]) hm (meet_le2 h)⟩
  · rintro ⟨h1, h2⟩ i hi
    have a := h1 i hi
    have b := h2 i hi
    rw [T.vec_len] at hi
    rw [meet_vec h, minV_get (by rw [T.vec_len, T.vec_len, h]) (by rw [T.vec_len]; omega)]
    omega
end Go.Proofs.YtocgehoffdjijaaGreat
/- forks: turns, plain. -/
namespace Go.Proofs.YtocgehoffdjijaaGreat
def T.turn : T → Nat → Bool → Option T
  | .lf, _, _ => none
  | .nd l r, at_, b =>
    if at_ < l.size then (l.turn at_ b).map fun l' => .nd l' r
    else if l.size < at_ then (r.turn (at_ - l.size - 1) b).map fun r' => .nd l r'
    else match b, l, r with
      | true, .nd a c, r => some (.nd a (.nd c r))
      | false, l, .nd c d => some (.nd (.nd l c) d)
      | _, _, _ => none
theorem turn_lt {l r : T} {k : Nat} {b : Bool} (h : k < l.size) : (T.nd l r).turn k b = (l.turn k b).map fun l' => .nd l' r := by
  simp [T.turn, h]
theorem turn_gt {l r : T} {k : Nat} {b : Bool} (h : l.size < k) : (T.nd l r).turn k b = (r.turn (k - l.size - 1) b).map fun r' => .nd l r' := by
  simp [T.turn, h, Nat.lt_asymm h]
theorem turn_eqR {a c r : T} {k : Nat} (h : k = (T.nd a c).size) : (T.nd (.nd a c) r).turn k true = some (.nd a (.nd c r)) := by
  subst h; simp [T.turn]
theorem turn_eqRn {r : T} {k : Nat} (h : k = 0) : (T.nd .lf r).turn k true = none := by
  subst h; simp [T.turn, T.size]
theorem turn_eqL {l c d : T} {k : Nat} (h : k = l.size) : (T.nd l (.nd c d)).turn k false = some (.nd (.nd l c) d) := by
  subst h; cases l <;> simp [T.turn]
theorem turn_eqLn {l : T} {k : Nat} (h : k = l.size) : (T.nd l .lf).turn k false = none := by
  subst h; cases l <;> simp [T.turn]
theorem turn_size : ∀ (x : T) (k : Nat) (b : Bool) (y : T), x.turn k b = some y → y.size = x.size
  | .lf, k, b, y, h => by simp [T.turn] at h
  | .nd l r, k, b, y, h => by
    rcases Nat.lt_trichotomy k l.size with h1 | h1 | h1
    · rw [turn_lt h1, Option.map_eq_some_iff] at h
      obtain ⟨l', hl, rfl⟩ := h
      simp [T.size, turn_size l k b l' hl]
    · cases b with
      | true =>
        cases l with
        | lf => rw [turn_eqRn h1] at h; cases h
        | nd a c => rw [turn_eqR h1] at h; cases h; simp [T.size]; omega
      | false =>
        cases r with
        | lf => rw [turn_eqLn h1] at h; cases h
        | nd c d => rw [turn_eqL h1] at h; cases h; simp [T.size]; omega
    · rw [turn_gt h1, Option.map_eq_some_iff] at h
      obtain ⟨r', hr, rfl⟩ := h
      simp [T.size, turn_size r _ b r' hr]
/-- Turning back: the other way, at some fork. -/
theorem turn_back : ∀ (x : T) (k : Nat) (b : Bool) (y : T), k < x.size → x.turn k b = some y → ∃ j, j < x.size ∧ y.turn j (!b) = some x
  | .lf, k, b, y, hk, h => by simp [T.turn] at h
  | .nd l r, k, b, y, hk, h => by
    have hsz := turn_size _ _ _ _ h
    simp only [T.size] at hk
    rcases Nat.lt_trichotomy k l.size with h1 | h1 | h1
    · rw [turn_lt h1, Option.map_eq_some_iff] at h
      obtain ⟨l', hl, rfl⟩ := h
      obtain ⟨j, hj, hb⟩ := turn_back l k b l' h1 hl
      have := turn_size _ _ _ _ hl
      exact ⟨j, by simp only [T.size]; omega, by rw [turn_lt (by omega), hb]; rfl⟩
    · cases b with
      | true =>
        cases l with
        | lf => rw [turn_eqRn h1] at h; cases h
        | nd a c =>
          rw [turn_eqR h1] at h; cases h
          exact ⟨a.size, by simp only [T.size]; omega, turn_eqL rfl⟩
      | false =>
        cases r with
        | lf => rw [turn_eqLn h1] at h; cases h
        | nd c d =>
          rw [turn_eqL h1] at h; cases h
          exact ⟨(T.nd l c).size, by simp only [T.size]; omega, turn_eqR rfl⟩
    · rw [turn_gt h1, Option.map_eq_some_iff] at h
      obtain ⟨r', hr, rfl⟩ := h
      obtain ⟨j, hj, hb⟩ := turn_back r _ b r' (by omega) hr
      exact ⟨l.size + 1 + j, by simp only [T.size]; omega, by rw [turn_gt (by omega), show l.size + 1 + j - l.size - 1 = j by omega, hb]; rfl⟩
theorem turn_mirror : ∀ (x : T) (k : Nat) (b : Bool) (y : T), k < x.size → x.turn k b = some y → x.mirror.turn (x.size - 1 - k) (!b) = some y.mirror
  | .lf, k, b, y, hk, h => by simp [T.turn] at h
  | .nd l r, k, b, y, hk, h => by
    have hml := T.mirror_size l
    have hmr := T.mirror_size r
    simp only [T.size] at hk ⊢
    rcases Nat.lt_trichotomy k l.size with h1 | h1 | h1
    · rw [turn_lt h1, Option.map_eq_some_iff] at h
      obtain ⟨l', hl, rfl⟩ := h
      have hb := turn_mirror l k b l' h1 hl
      simp only [T.mirror]
      rw [turn_gt (by omega), show 1 + l.size + r.size - 1 - k - r.mirror.size - 1 = l.size - 1 - k by omega, hb]; rfl
    · cases b with
      | true =>
        cases l with
        | lf => rw [turn_eqRn h1] at h; cases h
        | nd a c =>
          rw [turn_eqR h1] at h; cases h
          simp only [T.mirror]
          exact turn_eqL (by omega)
      | false =>
        cases r with
        | lf => rw [turn_eqLn h1] at h; cases h
        | nd c d =>
          rw [turn_eqL h1] at h; cases h
          simp only [T.mirror] at *
          exact turn_eqR (by omega)
    · rw [turn_gt h1, Option.map_eq_some_iff] at h
      obtain ⟨r', hr, rfl⟩ := h
      have hb := turn_mirror r _ b r' (by omega) hr
      simp only [T.mirror]
      rw [turn_lt (by omega), show 1 + l.size + r.size - 1 - k = r.size - 1 - (k - l.size - 1) by omega, hb]; rfl
/-- What a right turn does to the vector: the entry of the left child grows. -/
theorem turn_vec : ∀ (x : T) (k : Nat) (y : T), k < x.size → x.turn k true = some y → ∃ q, q < k ∧ (k : Int) = q + x.vec.getD q 0 + 1 ∧ y.vec = x.vec.set q (x.vec.getD q 0 + 1 + x.vec.getD k 0)
  | .lf, k, y, hk, h => by simp [T.turn] at h
  | .nd l r, k, y, hk, h => by
    simp only [T.size] at hk
    rcases Nat.lt_trichotomy k l.size with h1 | h1 | h1
    · rw [turn_lt h1, Option.map_eq_some_iff] at h
      obtain ⟨l', hl, rfl⟩ := h
      obtain ⟨q, hq, hk2, hv⟩ := turn_vec l k l' h1 hl
      refine ⟨q, hq, ?_, ?_⟩
      · rw [T.vec_get_lt (by omega)]; exact hk2
      · rw [T.vec_get_lt (by omega), T.vec_get_lt h1]
        simp only [T.vec]
        rw [hv, List.set_append_left _ _ (by rw [T.vec_len]; omega)]
    · cases l with
      | lf => rw [turn_eqRn h1] at h; cases h
      | nd a c =>
        rw [turn_eqR h1] at h; cases h
        simp only [T.size] at h1
        refine ⟨a.size, by omega, ?_, ?_⟩
        · rw [T.vec_get_lt (by simp only [T.size]; omega), T.vec_get_mid]; omega
        · rw [T.vec_get_lt (by simp only [T.size]; omega), T.vec_get_mid, show k = (T.nd a c).size by simp only [T.size]; omega, T.vec_get_mid]
          simp only [T.vec, List.append_assoc, List.cons_append]
          rw [List.set_append_right _ _ (by rw [T.vec_len]; exact Nat.le_refl _), T.vec_len, Nat.sub_self, List.set_cons_zero]
          congr 2
          simp only [T.size]; omega
    · rw [turn_gt h1, Option.map_eq_some_iff] at h
      obtain ⟨r', hr, rfl⟩ := h
      obtain ⟨q, hq, hk2, hv⟩ := turn_vec r _ r' (by omega) hr
      refine ⟨l.size + 1 + q, by omega, ?_, ?_⟩
      · rw [T.vec_get_gt (by omega), show l.size + 1 + q - l.size - 1 = q by omega]; omega
      · rw [T.vec_get_gt (by omega), T.vec_get_gt h1, show l.size + 1 + q - l.size - 1 = q by omega]
        simp only [T.vec]
        rw [hv, turn_size _ _ _ _ hr, List.set_append_right _ _ (by rw [T.vec_len]; omega), T.vec_len, show l.size + 1 + q - l.size = q + 1 by omega, List.set_cons_succ]
/-- A right turn that makes the first entry q with p = q + v(q) + 1 greater. -/
theorem turn_at : ∀ (x : T) (q p : Nat), p < x.size → (p : Int) = q + x.vec.getD q 0 + 1 → q < p → (∀ q', q' < q → (p : Int) ≠ q' + x.vec.getD q' 0 + 1) → ∃ y, x.turn p true = some y
  | .lf, q, p, hp, _, _, _ => by simp [T.size] at hp
  | .nd l r, q, p, hp, he, hqp, hm => by
    simp only [T.size] at hp
    rcases Nat.lt_trichotomy p l.size with h1 | h1 | h1
    · have he2 : (p : Int) = q + l.vec.getD q 0 + 1 := by rw [T.vec_get_lt (by omega)] at he; exact he
      obtain ⟨y, hy⟩ := turn_at l q p h1 he2 hqp fun q' hq' => by have := hm q' hq'; rw [T.vec_get_lt (by omega)] at this; exact this
      exact ⟨_, by rw [turn_lt h1, hy]; rfl⟩
    · cases l with
      | lf => simp only [T.size] at h1; omega
      | nd a c => exact ⟨_, turn_eqR h1⟩
    · have hql : l.size < q := by
        rcases Nat.lt_trichotomy q l.size with h2 | h2 | h2
        · rw [T.vec_get_lt h2] at he
          have := l.vec_bnd q h2
          omega
        · subst h2; rw [T.vec_get_mid] at he; omega
        · exact h2
      have he2 : ((p - l.size - 1 : Nat) : Int) = ((q - l.size - 1 : Nat) : Int) + r.vec.getD (q - l.size - 1) 0 + 1 := by rw [T.vec_get_gt hql] at he; omega
      obtain ⟨y, hy⟩ := turn_at r (q - l.size - 1) (p - l.size - 1) (by omega) he2 (by omega) fun q' hq' => by
        have := hm (l.size + 1 + q') (by omega)
        rw [T.vec_get_gt (by omega), show l.size + 1 + q' - l.size - 1 = q' by omega] at this
        omega
      exact ⟨_, by rw [turn_gt h1, hy]; rfl⟩
theorem getD_set (v : List Int) (q i : Nat) (a : Int) (hq : q < v.length) : (v.set q a).getD i 0 = if i = q then a else v.getD i 0 := by
  simp only [List.getD_eq_getElem?_getD, List.getElem?_set]
  by_cases h : i = q
  · subst h; simp [hq]
  · rw [if_neg (Ne.symm h), if_neg h]
/-- A right turn leads up. -/
theorem turn_le {x y : T} {k : Nat} (hk : k < x.size) (h : x.turn k true = some y) : x.le y ∧ x ≠ y := by
  obtain ⟨q, hq, he, hv⟩ := turn_vec x k y hk h
  have hb := (x.vec_bnd k hk).1
  have hbq := (x.vec_bnd q (by omega)).1
  refine ⟨fun i hi => ?_, fun e => ?_⟩
  · rw [hv, getD_set _ _ _ _ (by rw [T.vec_len]; omega)]
    split
    · rename_i h; subst h; omega
    · exact Int.le_refl _
  · subst e
    have := congrArg (fun v : List Int => v.getD q 0) hv
    simp only [getD_set _ _ _ _ (show q < x.vec.length by rw [T.vec_len]; omega), if_true] at this
    omega
/-- Below another tree, a right turn leads to one that is below it, too. -/
theorem turn_toward {x y : T} (hs : x.size = y.size) (h : x.le y) (hn : x ≠ y) : ∃ k z, k < x.size ∧ x.turn k true = some z ∧ z.le y := by
  have hlt : ∃ q, q < x.size ∧ x.vec.getD q 0 < y.vec.getD q 0 := by
    refine Classical.byContradiction fun hc => hn (le_anti hs h fun i hi => ?_)
    rw [T.vec_len] at hi
    have : ¬ x.vec.getD i 0 < y.vec.getD i 0 := fun hh => hc ⟨i, by omega, hh⟩
    omega
  obtain ⟨q, ⟨hq, hlt⟩, hmin⟩ : ∃ q, (q < x.size ∧ x.vec.getD q 0 < y.vec.getD q 0) ∧ ∀ q', q' < q → ¬ (q' < x.size ∧ x.vec.getD q' 0 < y.vec.getD q' 0) := by
    obtain ⟨n, hn⟩ := hlt
    induction n using Nat.strongRecOn with
    | _ n ih =>
      by_cases hk : ∃ k, k < n ∧ (k < x.size ∧ x.vec.getD k 0 < y.vec.getD k 0)
      · obtain ⟨k, hlt, hp⟩ := hk; exact ih k hlt hp
      · exact ⟨n, hn, fun k hk' hp => hk ⟨k, hk', hp⟩⟩
  have hbx := x.vec_bnd q hq
  have hby := y.vec_bnd q (by omega)
  obtain ⟨p, hp⟩ : ∃ p : Nat, (p : Int) = q + x.vec.getD q 0 + 1 := ⟨(q + x.vec.getD q 0 + 1).toNat, by omega⟩
  have hpx : p < x.size := by omega
  obtain ⟨z, hz⟩ := turn_at x q p hpx hp (by omega) fun q' hq' he => by
    have hbx' := x.vec_bnd q' (by omega)
    have hle := h q' (by rw [T.vec_len]; omega)
    have hn := y.vec_nest q' q hq' (by omega) (by omega)
    exact hmin q' hq' ⟨by omega, by omega⟩
  refine ⟨p, z, hpx, hz, ?_⟩
  obtain ⟨q2, hq2, he2, hv⟩ := turn_vec x p z hpx hz
  -- the entry that grows is the first one that reaches to p
  have hq2q : q2 = q := by
    have hbx2 := x.vec_bnd q2 (by omega)
    rcases Nat.lt_trichotomy q2 q with h1 | h1 | h1
    · exfalso
      have hle := h q2 (by rw [T.vec_len]; omega)
      have hn := y.vec_nest q2 q h1 (by omega) (by omega)
      exact hmin q2 h1 ⟨by omega, by omega⟩
    · exact h1
    · exfalso
      -- q is in no left part of p's left child: the turned tree is a tree
      have hz2 := z.vec_nest q q2 h1
      rw [hv, getD_set _ _ _ _ (by rw [T.vec_len]; omega), getD_set _ _ _ _ (by rw [T.vec_len]; omega), if_neg (by omega), if_pos rfl] at hz2
      have hzs := turn_size _ _ _ _ hz
      have hbp := x.vec_bnd p hpx
      have := hz2 (by omega) (by omega)
      omega
  subst hq2q
  intro i hi
  rw [T.vec_len, turn_size _ _ _ _ hz] at hi
  rw [hv, getD_set _ _ _ _ (by rw [T.vec_len]; omega)]
  split
  · rename_i e; subst e
    have hn := y.vec_nest i p (by omega) (by omega) (by omega)
    have hle := h p (by rw [T.vec_len]; omega)
    omega
  · exact h i (by rw [T.vec_len]; exact hi)
end Go.Proofs.YtocgehoffdjijaaGreat
/- forks: the order and the ways, plain. -/
namespace Go.Proofs.YtocgehoffdjijaaGreat
def up1 (x y : T) : Prop := ∃ k, k < x.size ∧ x.turn k true = some y
def adj (x y : T) : Prop := ∃ k b, k < x.size ∧ x.turn k b = some y
theorem up1_size {x y : T} (h : up1 x y) : y.size = x.size := by obtain ⟨k, _, h⟩ := h; exact turn_size _ _ _ _ h
theorem adj_size {x y : T} (h : adj x y) : y.size = x.size := by obtain ⟨k, b, _, h⟩ := h; exact turn_size _ _ _ _ h
theorem up1_adj {x y : T} (h : up1 x y) : adj x y := by obtain ⟨k, hk, h⟩ := h; exact ⟨k, true, hk, h⟩
theorem adj_symm {x y : T} (h : adj x y) : adj y x := by
  obtain ⟨k, b, hk, h⟩ := h
  obtain ⟨j, hj, hb⟩ := turn_back x k b y hk h
  exact ⟨j, !b, by rw [turn_size _ _ _ _ h]; exact hj, hb⟩
theorem up1_mirror {x y : T} (h : up1 x y) : up1 y.mirror x.mirror := by
  obtain ⟨k, hk, h⟩ := h
  obtain ⟨j, hj, hb⟩ := turn_back x k true y hk h
  have hs := turn_size _ _ _ _ h
  have := turn_mirror y j false x (by omega) hb
  exact ⟨y.size - 1 - j, by rw [T.mirror_size]; omega, this⟩
theorem up1_le {x y : T} (h : up1 x y) : x.le y := by obtain ⟨k, hk, h⟩ := h; exact (turn_le hk h).1
theorem up1_ne {x y : T} (h : up1 x y) : x ≠ y := by obtain ⟨k, hk, h⟩ := h; exact (turn_le hk h).2
def upN : Nat → T → T → Prop
  | 0, x, y => x = y
  | n + 1, x, y => ∃ z, up1 x z ∧ upN n z y
def pathN : Nat → T → T → Prop
  | 0, x, y => x = y
  | n + 1, x, y => ∃ z, adj x z ∧ pathN n z y
theorem upN_path : ∀ {n : Nat} {x y : T}, upN n x y → pathN n x y
  | 0, _, _, h => h
  | _ + 1, _, _, ⟨z, h, h'⟩ => ⟨z, up1_adj h, upN_path h'⟩
theorem upN_size : ∀ {n : Nat} {x y : T}, upN n x y → y.size = x.size
  | 0, _, _, h => by subst h; rfl
  | _ + 1, _, _, ⟨z, h, h'⟩ => by rw [upN_size h', up1_size h]
theorem path_size : ∀ {n : Nat} {x y : T}, pathN n x y → y.size = x.size
  | 0, _, _, h => by subst h; rfl
  | _ + 1, _, _, ⟨z, h, h'⟩ => by rw [path_size h', adj_size h]
theorem upN_le : ∀ {n : Nat} {x y : T}, upN n x y → x.le y
  | 0, _, _, h => by subst h; exact le_refl _
  | _ + 1, _, _, ⟨z, h, h'⟩ => le_trans (up1_size h).symm (up1_le h) (upN_le h')
theorem path_snoc : ∀ {n : Nat} {x y z : T}, pathN n x y → adj y z → pathN (n + 1) x z
  | 0, _, _, z, h, h' => by subst h; exact ⟨z, h', rfl⟩
  | _ + 1, _, _, _, ⟨u, h, h2⟩, h' => ⟨u, h, path_snoc h2 h'⟩
theorem path_unsnoc : ∀ {n : Nat} {x z : T}, pathN (n + 1) x z → ∃ y, pathN n x y ∧ adj y z
  | 0, x, _, ⟨u, h, h2⟩ => by have h2' : u = _ := h2; subst h2'; exact ⟨x, rfl, h⟩
  | _ + 1, _, _, ⟨u, h, h2⟩ => by
    obtain ⟨y, h3, h4⟩ := path_unsnoc h2
    exact ⟨y, ⟨u, h, h3⟩, h4⟩
theorem path_symm : ∀ {n : Nat} {x y : T}, pathN n x y → pathN n y x
  | 0, _, _, h => Eq.symm h
  | _ + 1, _, _, ⟨_, h, h2⟩ => path_snoc (path_symm h2) (adj_symm h)
theorem path_trans : ∀ {m n : Nat} {x y z : T}, pathN m x y → pathN n y z → pathN (m + n) x z
  | 0, n, _, _, _, h, h' => by subst h; rw [Nat.zero_add]; exact h'
  | m + 1, n, _, _, _, ⟨u, h, h2⟩, h' => by rw [show m + 1 + n = (m + n) + 1 by omega]; exact ⟨u, h, path_trans h2 h'⟩
theorem upN_snoc : ∀ {n : Nat} {x y z : T}, upN n x y → up1 y z → upN (n + 1) x z
  | 0, _, _, z, h, h' => by subst h; exact ⟨z, h', rfl⟩
  | _ + 1, _, _, _, ⟨u, h, h2⟩, h' => ⟨u, h, upN_snoc h2 h'⟩
theorem upN_unsnoc : ∀ {n : Nat} {x z : T}, upN (n + 1) x z → ∃ y, upN n x y ∧ up1 y z
  | 0, x, _, ⟨u, h, h2⟩ => by have h2' : u = _ := h2; subst h2'; exact ⟨x, rfl, h⟩
  | _ + 1, _, _, ⟨u, h, h2⟩ => by
    obtain ⟨y, h3, h4⟩ := upN_unsnoc h2
    exact ⟨y, ⟨u, h, h3⟩, h4⟩
theorem upN_mirror : ∀ {n : Nat} {x y : T}, upN n x y → upN n y.mirror x.mirror
  | 0, _, _, h => by subst h; exact rfl
  | _ + 1, _, _, ⟨_, h, h2⟩ => upN_snoc (upN_mirror h2) (up1_mirror h)
/- The sum of the vector. -/
def T.rk (x : T) : Int := x.vec.sum
theorem sum_le : ∀ {v w : List Int}, v.length = w.length → leV v w → v.sum ≤ w.sum
  | [], [], _, _ => Int.le_refl _
  | a :: v, b :: w, hl, h => by
    have h0 := h 0 (by simp)
    have := sum_le (v := v) (w := w) (by simpa using hl) fun i hi => by have := h (i + 1) (by simpa using hi); simpa using this
    simp at h0
    simp only [List.sum_cons]
    omega
theorem sum_set : ∀ {v : List Int} {i : Nat} {a : Int}, i < v.length → (v.set i a).sum = v.sum - v.getD i 0 + a
  | x :: v, 0, a, _ => by simp; omega
  | x :: v, i + 1, a, h => by
    have := sum_set (v := v) (i := i) (a := a) (by simpa using h)
    simp only [List.set_cons_succ, List.sum_cons, this, List.getD_cons_succ]
    omega
theorem rk_le {x y : T} (hs : x.size = y.size) (h : x.le y) : x.rk ≤ y.rk := sum_le (by rw [T.vec_len, T.vec_len, hs]) h
theorem rk_up {x y : T} (h : up1 x y) : x.rk + 1 ≤ y.rk := by
  obtain ⟨k, hk, h⟩ := h
  obtain ⟨q, hq, he, hv⟩ := turn_vec x k y hk h
  have hb := (x.vec_bnd k hk).1
  unfold T.rk
  rw [hv, sum_set (by rw [T.vec_len]; omega)]
  omega
theorem rk_upN : ∀ {n : Nat} {x y : T}, upN n x y → x.rk + n ≤ y.rk
  | 0, _, _, h => by subst h; simp
  | n + 1, _, _, ⟨z, h, h'⟩ => by
    have := rk_up h
    have := rk_upN h'
    omega
theorem sum_bnd : ∀ {v : List Int} {m : Int}, (∀ i, i < v.length → 0 ≤ v.getD i 0 ∧ v.getD i 0 ≤ m) → 0 ≤ v.sum ∧ v.sum ≤ v.length * m
  | [], m, _ => by simp
  | a :: v, m, h => by
    have h0 := h 0 (by simp)
    have := sum_bnd (v := v) (m := m) fun i hi => by have := h (i + 1) (by simpa using hi); simpa using this
    simp at h0
    simp only [List.sum_cons, List.length_cons]
    rw [Int.natCast_add, Int.add_mul]
    omega
theorem rk_nonneg (x : T) : 0 ≤ x.rk := (sum_bnd (m := x.size) fun i hi => by
  rw [T.vec_len] at hi; have := x.vec_bnd i hi; omega).1
theorem rk_bnd (x : T) : x.rk ≤ x.size * x.size := by
  have := (sum_bnd (v := x.vec) (m := x.size) fun i hi => by
    rw [T.vec_len] at hi; have := x.vec_bnd i hi; omega).2
  rw [T.vec_len] at this; exact this
/-- A tree is below another one exactly if right turns lead to it. -/
theorem le_upN {x y : T} (hs : x.size = y.size) (h : x.le y) : ∃ n, upN n x y := by
  induction hn : (y.rk - x.rk).toNat using Nat.strongRecOn generalizing x with
  | _ n ih =>
    by_cases he : x = y
    · exact ⟨0, he⟩
    · obtain ⟨k, z, hk, hz, hle⟩ := turn_toward hs h he
      have hu : up1 x z := ⟨k, hk, hz⟩
      have h1 := rk_up hu
      have hzs := up1_size hu
      have h2 := rk_le (by omega) hle
      obtain ⟨m, hm⟩ := ih (y.rk - z.rk).toNat (by omega) (by omega) hle rfl
      exact ⟨m + 1, z, hu, hm⟩
theorem mirror_anti {x y : T} (hs : x.size = y.size) (h : x.le y) : y.mirror.le x.mirror := by
  obtain ⟨n, hn⟩ := le_upN hs h
  exact upN_le (upN_mirror hn)
theorem mirror_le {x y : T} (hs : x.size = y.size) : y.mirror.le x.mirror ↔ x.le y := by
  refine ⟨fun h => ?_, mirror_anti hs⟩
  have := mirror_anti (by rw [T.mirror_size, T.mirror_size, hs]) h
  rwa [T.mirror_mirror, T.mirror_mirror] at this
theorem join_le {x y z : T} (h : x.size = y.size) (hz : z.size = x.size) : (x.join y).le z ↔ x.le z ∧ y.le z := by
  rw [← mirror_le (by rw [join_size h]; exact hz.symm)]
  unfold T.join
  rw [T.mirror_mirror, le_meet (by rw [T.mirror_size, T.mirror_size, h]) (by rw [T.mirror_size, T.mirror_size, hz]), mirror_le hz.symm, mirror_le (by omega)]
theorem join_comm (x y : T) (h : x.size = y.size) : x.join y = y.join x := by
  unfold T.join; rw [meet_comm _ _ (by rw [T.mirror_size, T.mirror_size, h])]
theorem le_join1 {x y : T} (h : x.size = y.size) : x.le (x.join y) := ((join_le h (join_size h)).1 (le_refl _)).1
theorem le_join2 {x y : T} (h : x.size = y.size) : y.le (x.join y) := ((join_le h (join_size h)).1 (le_refl _)).2
theorem join_meet {x y : T} (h : x.size = y.size) : x.join (x.meet y) = x := by
  have hm := meet_size h
  refine le_anti (join_size hm.symm) ((join_le hm.symm rfl).2 ⟨le_refl _, meet_le1 h⟩) (le_join1 hm.symm)
theorem meet_join {x y : T} (h : x.size = y.size) : x.meet (x.join y) = x := by
  have hj := join_size h
  refine le_anti (meet_size hj.symm) (meet_le1 hj.symm) ((le_meet hj.symm rfl).2 ⟨le_refl _, le_join1 h⟩)
theorem join_mirror {x y : T} : x.mirror.join y.mirror = (x.meet y).mirror := by
  unfold T.join; rw [T.mirror_mirror, T.mirror_mirror]
/- The comb. -/
def T.sp : T → Nat
  | .lf => 0
  | .nd _ r => 1 + r.sp
def comb : Nat → T
  | 0 => .lf
  | n + 1 => .nd .lf (comb n)
theorem comb_size : ∀ n, (comb n).size = n
  | 0 => rfl
  | n + 1 => by simp [comb, T.size, comb_size n]; omega
theorem sp_le : ∀ x : T, x.sp ≤ x.size
  | .lf => Nat.le_refl _
  | .nd l r => by have := sp_le r; simp only [T.sp, T.size]; omega
theorem sp_comb : ∀ x : T, x.sp = x.size → x = comb x.size
  | .lf, _ => rfl
  | .nd l r, h => by
    have := sp_le r
    simp only [T.sp, T.size] at h
    have hl : l = .lf := by
      cases l with
      | lf => rfl
      | nd a b => simp only [T.size] at h; omega
    subst hl
    have hr := sp_comb r (by simp only [T.size] at h; omega)
    simp only [T.size]
    rw [show 1 + 0 + r.size = r.size + 1 by omega, comb, ← hr]
theorem sp_step : ∀ x : T, x.sp ≠ x.size → ∃ y, up1 x y ∧ y.sp = x.sp + 1
  | .lf, h => absurd rfl h
  | .nd l r, h => by
    cases l with
    | nd a c => exact ⟨.nd a (.nd c r), ⟨(T.nd a c).size, by simp only [T.size]; omega, turn_eqR rfl⟩, by simp only [T.sp]; omega⟩
    | lf =>
      obtain ⟨y, ⟨k, hk, hy⟩, hs⟩ := sp_step r (by simp only [T.sp, T.size] at h; omega)
      refine ⟨.nd .lf y, ⟨k + 1, by simp only [T.size]; omega, ?_⟩, by simp only [T.sp]; omega⟩
      rw [turn_gt (by simp only [T.size]; omega), show k + 1 - T.lf.size - 1 = k by simp [T.size], hy]; rfl
theorem to_comb (x : T) : upN (x.size - x.sp) x (comb x.size) := by
  induction hn : x.size - x.sp using Nat.strongRecOn generalizing x with
  | _ n ih =>
    have hle := sp_le x
    by_cases h : x.sp = x.size
    · obtain rfl : n = 0 := by omega
      exact sp_comb x h
    · obtain ⟨y, hu, hs⟩ := sp_step x h
      have hys := up1_size hu
      obtain ⟨m, rfl⟩ : ∃ m, n = m + 1 := ⟨n - 1, by omega⟩
      have := ih m (by omega) y (by omega)
      rw [hys] at this
      exact ⟨y, hu, this⟩
theorem sp_pos {x : T} (h : x.size ≠ 0) : 1 ≤ x.sp := by
  cases x with
  | lf => exact absurd rfl h
  | nd l r => simp only [T.sp]; omega
/-- Any two trees with as many forks are joined by at most 2 (n - 1) turns. -/
theorem path_all {x y : T} (h : x.size = y.size) : ∃ n, n ≤ 2 * (x.size - 1) ∧ pathN n x y := by
  have h1 := upN_path (to_comb x)
  have h2 := path_symm (upN_path (to_comb y))
  rw [← h] at h2
  refine ⟨_, ?_, path_trans h1 h2⟩
  by_cases h0 : x.size = 0
  · omega
  · have := sp_pos h0
    have := sp_pos (x := y) (by omega)
    omega
open Classical in
noncomputable def leastN (p : Nat → Prop) : Nat := if h : ∃ n, p n ∧ ∀ k, p k → n ≤ k then Classical.choose h else 0
theorem least_ex {p : Nat → Prop} (h : ∃ n, p n) : ∃ n, p n ∧ ∀ k, p k → n ≤ k := by
  obtain ⟨n, hn⟩ := h
  induction n using Nat.strongRecOn with
  | _ n ih =>
    by_cases hk : ∃ k, k < n ∧ p k
    · obtain ⟨k, hlt, hp⟩ := hk; exact ih k hlt hp
    · exact ⟨n, hn, fun k hp => Nat.le_of_not_lt fun hlt => hk ⟨k, hlt, hp⟩⟩
theorem leastN_spec {p : Nat → Prop} (h : ∃ n, p n) : p (leastN p) ∧ ∀ k, p k → leastN p ≤ k := by
  unfold leastN
  rw [dif_pos (least_ex h)]
  exact Classical.choose_spec (least_ex h)
/-- The smallest number of turns. -/
noncomputable def dist (x y : T) : Nat := leastN fun n => pathN n x y
theorem dist_path {x y : T} (h : x.size = y.size) : pathN (dist x y) x y := (leastN_spec (p := fun n => pathN n x y) (let ⟨n, _, hn⟩ := path_all h; ⟨n, hn⟩)).1
theorem dist_le {x y : T} {n : Nat} (hn : pathN n x y) : dist x y ≤ n := (leastN_spec (p := fun n => pathN n x y) ⟨n, hn⟩).2 n hn
theorem dist_bnd {x y : T} (h : x.size = y.size) : dist x y ≤ 2 * (x.size - 1) := by
  obtain ⟨n, h1, h2⟩ := path_all h
  exact Nat.le_trans (dist_le h2) h1
theorem dist_self (x : T) : dist x x = 0 := Nat.le_zero.1 (dist_le (n := 0) rfl)
theorem dist_zero {x y : T} (h : x.size = y.size) (h0 : dist x y = 0) : x = y := by
  have := dist_path h
  rw [h0] at this; exact this
theorem dist_symm (x y : T) (h : x.size = y.size) : dist x y = dist y x :=
  Nat.le_antisymm (dist_le (path_symm (dist_path h.symm))) (dist_le (path_symm (dist_path h)))
theorem dist_adj {x y z : T} (h : x.size = y.size) (ha : adj y z) : dist x z ≤ dist x y + 1 := dist_le (path_snoc (dist_path h) ha)
/-- A tree at a greater distance has a neighbor one nearer. -/
theorem dist_pred {x y : T} {k : Nat} (h : x.size = y.size) (hd : dist x y = k + 1) : ∃ z, adj z y ∧ dist x z = k := by
  have hp := dist_path h
  rw [hd] at hp
  obtain ⟨z, h1, h2⟩ := path_unsnoc hp
  have h3 := dist_le h1
  have h4 := dist_adj (path_size h1).symm h2
  exact ⟨z, h2, by omega⟩
/- The greatest number of right turns. -/
def IsLp (x y : T) (n : Nat) : Prop := upN n x y ∧ ∀ k, upN k x y → k ≤ n
theorem isLp_unique {x y : T} {m n : Nat} (h : IsLp x y m) (h' : IsLp x y n) : m = n := Nat.le_antisymm (h'.2 _ h.1) (h.2 _ h'.1)
theorem isLp_self (x : T) : IsLp x x 0 := ⟨rfl, fun k hk => by have := rk_upN hk; omega⟩
theorem isLp_step {x y : T} {n : Nat} (hn : x ≠ y) (h1 : ∃ z m, up1 x z ∧ IsLp z y m ∧ n = m + 1) (h2 : ∀ z, up1 x z → z.le y → ∃ m, IsLp z y m ∧ m + 1 ≤ n) : IsLp x y n := by
  obtain ⟨z, m, hz, hm, rfl⟩ := h1
  refine ⟨⟨z, hz, hm.1⟩, fun k hk => ?_⟩
  cases k with
  | zero => exact absurd hk hn
  | succ k =>
    obtain ⟨u, hu, hk⟩ := hk
    obtain ⟨m', hm', hle⟩ := h2 u hu (upN_le hk)
    have := hm'.2 k hk
    omega
theorem isLp_dist {x y : T} {n : Nat} (h : IsLp x y n) : dist x y ≤ n := dist_le (upN_path h.1)
def ups (x : T) : List T := (List.range x.size).filterMap fun k => x.turn k true
def downs (x : T) : List T := (List.range x.size).filterMap fun k => x.turn k false
theorem mem_ups {x y : T} : y ∈ ups x ↔ up1 x y := by
  simp only [ups, List.mem_filterMap, List.mem_range, up1]
theorem mem_downs {x y : T} : y ∈ downs x ↔ ∃ k, k < x.size ∧ x.turn k false = some y := by
  simp only [downs, List.mem_filterMap, List.mem_range]
theorem mem_adj {x y : T} : adj x y ↔ y ∈ ups x ∨ y ∈ downs x := by
  rw [mem_ups, mem_downs]
  constructor
  · rintro ⟨k, b, hk, h⟩
    cases b with
    | true => exact .inl ⟨k, hk, h⟩
    | false => exact .inr ⟨k, hk, h⟩
  · rintro (⟨k, hk, h⟩ | ⟨k, hk, h⟩)
    · exact ⟨k, true, hk, h⟩
    · exact ⟨k, false, hk, h⟩
instance (x y : T) : Decidable (adj x y) := decidable_of_iff' _ mem_adj
def lpF : Nat → T → T → Nat
  | 0, _, _ => 0
  | n + 1, x, y => ((ups x).filter fun z => decide (z.le y)).foldl (fun m z => max m (1 + lpF n z y)) 0
theorem lpF_succ (n : Nat) (x y : T) : lpF (n + 1) x y = ((ups x).filter fun z => decide (z.le y)).foldl (fun m z => max m (1 + lpF n z y)) 0 := rfl
theorem foldl_max {α : Type} (f : α → Nat) : ∀ (l : List α) (m : Nat), m ≤ l.foldl (fun m z => max m (f z)) m ∧ (∀ z ∈ l, f z ≤ l.foldl (fun m z => max m (f z)) m) ∧ (l.foldl (fun m z => max m (f z)) m = m ∨ ∃ z ∈ l, l.foldl (fun m z => max m (f z)) m = f z)
  | [], m => ⟨Nat.le_refl _, by simp, .inl rfl⟩
  | a :: l, m => by
    obtain ⟨h1, h2, h3⟩ := foldl_max f l (max m (f a))
    simp only [List.foldl_cons]
    refine ⟨by omega, fun z hz => ?_, ?_⟩
    · rcases List.mem_cons.1 hz with rfl | hz
      · omega
      · exact h2 z hz
    · rcases h3 with h3 | ⟨z, hz, h3⟩
      · rcases Nat.le_total m (f a) with h | h
        · right; exact ⟨a, by simp, by rw [h3]; omega⟩
        · left; rw [h3]; omega
      · right; exact ⟨z, by simp [hz], h3⟩
theorem lpF_spec : ∀ (n : Nat) (x y : T), x.size = y.size → x.le y → y.rk - x.rk ≤ n → IsLp x y (lpF n x y)
  | 0, x, y, hs, hle, hn => by
    by_cases he : x = y
    · subst he; exact isLp_self _
    · obtain ⟨k, z, hk, hz, hzy⟩ := turn_toward hs hle he
      have hu : up1 x z := ⟨k, hk, hz⟩
      have := rk_up hu
      have := rk_le (by rw [up1_size hu, hs]) hzy
      omega
  | n + 1, x, y, hs, hle, hn => by
    have hf := foldl_max (fun z => 1 + lpF n z y) ((ups x).filter fun z => decide (z.le y)) 0
    obtain ⟨h1, h2, h3⟩ := hf
    have hmem : ∀ z, z ∈ (ups x).filter (fun z => decide (z.le y)) ↔ up1 x z ∧ z.le y := fun z => by rw [List.mem_filter, mem_ups, decide_eq_true_iff]
    have ih : ∀ z, up1 x z → z.le y → IsLp z y (lpF n z y) := fun z hz hzy => lpF_spec n z y (by rw [up1_size hz, hs]) hzy (by have := rk_up hz; omega)
    by_cases he : x = y
    · subst he
      have h0 : lpF (n + 1) x x = 0 := by
        rcases h3 with h3 | ⟨z, hz, h3⟩
        · exact h3
        · obtain ⟨hz1, hz2⟩ := (hmem z).1 hz
          have := rk_up hz1
          have := rk_le (by rw [up1_size hz1]) hz2
          omega
      rw [h0]; exact isLp_self _
    · obtain ⟨k, z0, hk, hz0, hzy0⟩ := turn_toward hs hle he
      have hu0 : up1 x z0 := ⟨k, hk, hz0⟩
      have hge := h2 z0 ((hmem z0).2 ⟨hu0, hzy0⟩)
      refine isLp_step he ?_ ?_
      · rcases h3 with h3 | ⟨z, hz, h3⟩
        · rw [h3] at hge; omega
        · obtain ⟨hz1, hz2⟩ := (hmem z).1 hz
          exact ⟨z, _, hz1, ih z hz1 hz2, by rw [lpF_succ, h3]; omega⟩
      · intro z hz hzy
        exact ⟨_, ih z hz hzy, by have := h2 z ((hmem z).2 ⟨hz, hzy⟩); rw [lpF_succ]; omega⟩
theorem isLp_ex {x y : T} (hs : x.size = y.size) (h : x.le y) : ∃ n, IsLp x y n := ⟨_, lpF_spec (y.rk - x.rk).toNat x y hs h (by omega)⟩
end Go.Proofs.YtocgehoffdjijaaGreat
/- forks: all trees; the search of the shortest way, plain. -/
namespace Go.Proofs.YtocgehoffdjijaaGreat
/- All trees. -/
def nxtT (ls : List (List T)) (m : Nat) : List T := (List.range (m + 1)).flatMap fun k => (ls.getD k []).flatMap fun l => (ls.getD (m - k) []).map fun r => T.nd l r
def tb : Nat → List (List T)
  | 0 => [[.lf]]
  | m + 1 => tb m ++ [nxtT (tb m) m]
theorem tb_len : ∀ m, (tb m).length = m + 1
  | 0 => rfl
  | m + 1 => by simp [tb, tb_len m]
theorem tb_old {m k : Nat} (h : k ≤ m) : (tb (m + 1)).getD k [] = (tb m).getD k [] := by
  have := tb_len m
  simp only [tb, List.getD_eq_getElem?_getD]
  rw [List.getElem?_append_left (by omega)]
theorem tb_new (m : Nat) : (tb (m + 1)).getD (m + 1) [] = nxtT (tb m) m := by
  have := tb_len m
  simp only [tb, List.getD_eq_getElem?_getD]
  rw [List.getElem?_append_right (by omega), this]
  simp
theorem tb_mem : ∀ (m n : Nat) (t : T), n ≤ m → (t ∈ (tb m).getD n [] ↔ t.size = n)
  | 0, n, t, h => by
    obtain rfl : n = 0 := by omega
    cases t <;> simp [tb, T.size]
  | m + 1, n, t, h => by
    by_cases hn : n ≤ m
    · rw [tb_old hn]; exact tb_mem m n t hn
    · obtain rfl : n = m + 1 := by omega
      rw [tb_new]
      simp only [nxtT, List.mem_flatMap, List.mem_range, List.mem_map]
      constructor
      · rintro ⟨k, hk, l, hl, r, hr, rfl⟩
        have h1 := (tb_mem m k l (by omega)).1 hl
        have h2 := (tb_mem m (m - k) r (by omega)).1 hr
        simp only [T.size]; omega
      · intro hs
        cases t with
        | lf => simp [T.size] at hs
        | nd l r =>
          simp only [T.size] at hs
          exact ⟨l.size, by omega, l, (tb_mem m l.size l (by omega)).2 rfl, r, (tb_mem m (m - l.size) r (by omega)).2 (by omega), rfl⟩
theorem nodup_len {α : Type} [DecidableEq α] : ∀ {l l' : List α}, l.Nodup → (∀ x ∈ l, x ∈ l') → l.length ≤ l'.length
  | [], _, _, _ => Nat.zero_le _
  | a :: l, l', hn, hs => by
    have ha := hs a (by simp)
    have hn' := List.nodup_cons.1 hn
    have := nodup_len (l := l) (l' := l'.erase a) hn'.2 fun x hx => (List.mem_erase_of_ne (fun e => hn'.1 (by rw [← e]; exact hx))).2 (hs x (by simp [hx]))
    rw [List.length_erase_of_mem ha] at this
    have := List.length_pos_of_mem ha
    simp only [List.length_cons]; omega
theorem trees7 : ∀ n, n < 8 → ((tb 7).getD n []).length ≤ 429 := by decide +kernel
/- The search. -/
structure Bfs (x : T) (Q : List T) (par : T → Option T) (i : Nat) : Prop where
  nod : Q.Nodup
  hd : Q[0]? = some x
  sz : ∀ t, t ∈ Q → t.size = x.size
  mem : ∀ t, t ∈ Q ↔ (par t).isSome = true
  px : par x = some x
  pr : ∀ t p, par t = some p → t ≠ x → adj p t ∧ dist x t = dist x p + 1 ∧ p ∈ Q
  srt : ∀ (j k : Nat) (tj tk : T), j ≤ k → Q[j]? = some tj → Q[k]? = some tk → dist x tj ≤ dist x tk
  cl : ∀ (j : Nat) (t z : T), j < i → Q[j]? = some t → adj t z → z ∈ Q
  near : ∀ (c t : T), Q[i]? = some c → t ∈ Q → dist x t ≤ dist x c + 1
  lt : ∀ (c u : T), Q[i]? = some c → u.size = x.size → dist x u < dist x c → ∃ j : Nat, j < i ∧ Q[j]? = some u
theorem bfs_init (x : T) : Bfs x [x] (fun t => if t = x then some x else none) 0 where
  nod := by simp
  hd := rfl
  sz := by simp
  mem := fun t => by by_cases h : t = x <;> simp [h]
  px := by simp
  pr := fun t p h hn => by simp [hn] at h
  srt := fun j k tj tk hjk h1 h2 => by
    cases j <;> cases k <;> simp_all
  cl := fun j t z h => by omega
  near := fun c t h1 h2 => by simp at h1 h2; subst h1; subst h2; omega
  lt := fun c u h1 _ h3 => by simp at h1; subst h1; rw [dist_self] at h3; omega
theorem Bfs.step {x c z : T} {Q : List T} {par : T → Option T} {i : Nat} (h : Bfs x Q par i) (hc : Q[i]? = some c) (ha : adj c z) (hz : z ∉ Q) : dist x z = dist x c + 1 := by
  have hcm : c ∈ Q := List.mem_of_getElem? hc
  have hcs := h.sz c hcm
  have hzs : x.size = z.size := by rw [adj_size ha]; exact hcs.symm
  have h1 := dist_adj hcs.symm ha
  refine Nat.le_antisymm h1 (Nat.lt_of_not_le fun hle => hz ?_)
  cases hd : dist x z with
  | zero =>
    have := dist_zero hzs hd
    subst this
    exact List.mem_of_getElem? h.hd
  | succ k =>
    obtain ⟨u, hu, hk⟩ := dist_pred hzs hd
    obtain ⟨j, hj, hq⟩ := h.lt c u hc (by rw [hzs, ← adj_size hu]) (by omega)
    exact h.cl j u z hj hq hu
theorem bfs_add {x c z : T} {Q : List T} {par : T → Option T} {i : Nat} (h : Bfs x Q par i) (hc : Q[i]? = some c) (ha : adj c z) (hz : z ∉ Q) : Bfs x (Q ++ [z]) (fun t => if t = z then some c else par t) i := by
  have hcm : c ∈ Q := List.mem_of_getElem? hc
  have hil : i < Q.length := (List.getElem?_eq_some_iff.1 hc).1
  have hd := h.step hc ha hz
  have hx : x ∈ Q := List.mem_of_getElem? h.hd
  have hxz : x ≠ z := fun e => hz (e ▸ hx)
  have old : ∀ {k : Nat} {t : T}, (Q ++ [z])[k]? = some t → Q[k]? = some t ∨ (k = Q.length ∧ t = z) := by
    intro k t hk
    by_cases hkl : k < Q.length
    · rw [List.getElem?_append_left hkl] at hk; exact .inl hk
    · rw [List.getElem?_append_right (by omega)] at hk
      by_cases h0 : k - Q.length = 0
      · rw [h0] at hk; simp at hk; exact .inr ⟨by omega, hk.symm⟩
      · rw [List.getElem?_eq_none (by simp; omega)] at hk; cases hk
  have hci : (Q ++ [z])[i]? = some c := by rw [List.getElem?_append_left hil]; exact hc
  constructor
  · rw [List.nodup_append]
    exact ⟨h.nod, by simp, fun a ha' b hb => by simp at hb; subst hb; rintro rfl; exact hz ha'⟩
  · rw [List.getElem?_append_left (by omega)]; exact h.hd
  · intro t ht
    rw [List.mem_append, List.mem_singleton] at ht
    rcases ht with ht | rfl
    · exact h.sz t ht
    · rw [adj_size ha]; exact h.sz c hcm
  · intro t
    rw [List.mem_append, List.mem_singleton]
    by_cases e : t = z
    · simp [e]
    · rw [if_neg e, ← h.mem t]; simp [e]
  · rw [if_neg hxz]; exact h.px
  · intro t p hp hn
    split at hp
    · cases hp
      rename_i e; subst e
      exact ⟨ha, hd, by simp [hcm]⟩
    · obtain ⟨h1, h2, h3⟩ := h.pr t p hp hn
      exact ⟨h1, h2, by simp [h3]⟩
  · intro j k tj tk hjk h1 h2
    rcases old h1 with h1' | ⟨rfl, rfl⟩
    · rcases old h2 with h2' | ⟨rfl, rfl⟩
      · exact h.srt j k tj tk hjk h1' h2'
      · have := h.near c tj hc (List.mem_of_getElem? h1'); omega
    · rcases old h2 with h2 | ⟨rfl, rfl⟩
      · have := (List.getElem?_eq_some_iff.1 h2).1; omega
      · omega
  · intro j t u hj ht hu
    rcases old ht with ht | ⟨rfl, rfl⟩
    · exact List.mem_append_left _ (h.cl j t u hj ht hu)
    · omega
  · intro c' t h1 h2
    rw [hci] at h1; cases h1
    rw [List.mem_append, List.mem_singleton] at h2
    rcases h2 with h2 | rfl
    · exact h.near c t hc h2
    · omega
  · intro c' u h1 h2 h3
    rw [hci] at h1; cases h1
    obtain ⟨j, hj, hq⟩ := h.lt c u hc h2 h3
    exact ⟨j, hj, by rw [List.getElem?_append_left (by omega)]; exact hq⟩
theorem bfs_next {x c : T} {Q : List T} {par : T → Option T} {i : Nat} (h : Bfs x Q par i) (hc : Q[i]? = some c) (hall : ∀ z, adj c z → z ∈ Q) : Bfs x Q par (i + 1) := by
  have hil : i < Q.length := (List.getElem?_eq_some_iff.1 hc).1
  have hcl : ∀ (j : Nat) (t z : T), j < i + 1 → Q[j]? = some t → adj t z → z ∈ Q := by
    intro j t z hj ht hz
    by_cases hji : j = i
    · subst hji; rw [hc] at ht; cases ht; exact hall z hz
    · exact h.cl j t z (by omega) ht hz
  refine ⟨h.nod, h.hd, h.sz, h.mem, h.px, h.pr, h.srt, hcl, ?_, ?_⟩
  · intro c' t h1 h2
    have := h.near c t hc h2
    have := h.srt i (i + 1) c c' (by omega) hc h1
    omega
  · intro c' u h1 h2 h3
    have hn := h.near c c' hc (List.mem_of_getElem? h1)
    by_cases hlt : dist x u < dist x c
    · obtain ⟨j, hj, hq⟩ := h.lt c u hc h2 hlt
      exact ⟨j, by omega, hq⟩
    · have hmem : u ∈ Q := by
        cases hd : dist x u with
        | zero => have := dist_zero h2.symm hd; subst this; exact List.mem_of_getElem? h.hd
        | succ k =>
          obtain ⟨z, hz, hk⟩ := dist_pred h2.symm hd
          obtain ⟨j, hj, hq⟩ := h.lt c z hc (by rw [← h2, ← adj_size hz]) (by omega)
          exact h.cl j z u hj hq hz
      obtain ⟨m, hm, e⟩ := List.getElem_of_mem hmem
      have hqm : Q[m]? = some u := by rw [List.getElem?_eq_getElem hm, e]
      refine ⟨m, Nat.lt_of_not_le fun hle => ?_, hqm⟩
      have := h.srt (i + 1) m c' u hle h1 hqm
      omega
theorem bfs_room {x y : T} {Q : List T} {par : T → Option T} {i : Nat} (h : Bfs x Q par i) (hy : y.size = x.size) (hn : y ∉ Q) : i < Q.length := by
  refine Nat.lt_of_not_le fun hle => hn ?_
  have hcl : ∀ t z, t ∈ Q → adj t z → z ∈ Q := by
    intro t z ht hz
    obtain ⟨m, hm, e⟩ := List.getElem_of_mem ht
    exact h.cl m t z (by omega) (by rw [List.getElem?_eq_getElem hm, e]) hz
  have hpath : ∀ n u v, pathN n u v → u ∈ Q → v ∈ Q := by
    intro n
    induction n with
    | zero => intro u v hp hu; have : u = v := hp; exact this ▸ hu
    | succ n ih => intro u v hp hu; obtain ⟨z, h1, h2⟩ := hp; exact ih z v h2 (hcl u z hu h1)
  exact hpath _ x y (dist_path hy.symm) (List.mem_of_getElem? h.hd)
theorem bfs_len {x : T} {Q : List T} {par : T → Option T} {i : Nat} (h : Bfs x Q par i) (hx : x.size ≤ 7) : Q.length ≤ 429 :=
  Nat.le_trans (nodup_len h.nod fun t ht => (tb_mem 7 x.size t hx).2 (h.sz t ht)) (trees7 x.size (by omega))
/-- A way: from t through r to y. -/
def chA : T → List T → T → Prop
  | t, [], y => t = y
  | t, z :: r, y => adj t z ∧ chA z r y
structure IsWay (x y : T) (W : List T) : Prop where
  len : W.length = dist x y + 1
  first : W[0]? = some x
  last : W[dist x y]? = some y
  step : ∀ (i : Nat) (a b : T), W[i]? = some a → W[i + 1]? = some b → adj a b
theorem chA_last : ∀ {t y : T} {r : List T}, chA t r y → (t :: r)[r.length]? = some y
  | t, y, [], h => by have : t = y := h; simp [this]
  | t, y, z :: r, h => by have := chA_last h.2; simpa using this
theorem chA_step : ∀ {t y : T} {r : List T}, chA t r y → ∀ (i : Nat) (a b : T), (t :: r)[i]? = some a → (t :: r)[i + 1]? = some b → adj a b
  | t, y, [], h, i, a, b, _, h2 => by simp at h2
  | t, y, z :: r, h, 0, a, b, h1, h2 => by simp at h1 h2; subst h1; subst h2; exact h.1
  | t, y, z :: r, h, i + 1, a, b, h1, h2 => chA_step h.2 i a b (by simpa using h1) (by simpa using h2)
theorem chA_way {x y : T} {r : List T} (h : chA x r y) (hl : r.length = dist x y) : IsWay x y (x :: r) :=
  ⟨by simp [hl], rfl, by rw [← hl]; exact chA_last h, chA_step h⟩
theorem way_size {x y : T} {W : List T} (h : IsWay x y W) : ∀ t, t ∈ W → t.size = x.size := by
  have : ∀ (i : Nat) (t : T), W[i]? = some t → t.size = x.size := by
    intro i
    induction i with
    | zero => intro t ht; rw [h.first] at ht; cases ht; rfl
    | succ i ih =>
      intro t ht
      obtain ⟨a, ha⟩ : ∃ a, W[i]? = some a := by
        have := (List.getElem?_eq_some_iff.1 ht).1
        exact ⟨W[i], by rw [List.getElem?_eq_getElem]⟩
      rw [adj_size (h.step i a t ha ht)]; exact ih a ha
  intro t ht
  obtain ⟨m, hm, e⟩ := List.getElem_of_mem ht
  exact this m t (by rw [List.getElem?_eq_getElem hm, e])
end Go.Proofs.YtocgehoffdjijaaGreat
/- forks: all trees with n forks in ascending order, plain. -/
namespace Go.Proofs.YtocgehoffdjijaaGreat
abbrev sortP (L : List Str) : List Str := L.mergeSort fun x y => decide (x ≤ y)
theorem sortP_perm (L : List Str) : (sortP L).Perm L := List.mergeSort_perm _ _
theorem sortP_sorted (L : List Str) : (sortP L).Pairwise (· ≤ ·) := by
  have := List.pairwise_mergeSort (le := fun x y : Str => decide (x ≤ y)) (fun a b c h1 h2 => decide_eq_true (List.le_trans (of_decide_eq_true h1) (of_decide_eq_true h2)))
    (fun a b => by rcases List.le_total a b with h | h <;> simp [h]) L
  exact this.imp fun h => of_decide_eq_true h
theorem sortP_eq {L L' : List Str} (hp : L'.Perm L) (hs : L'.Pairwise (· ≤ ·)) : L' = sortP L :=
  List.Perm.eq_of_pairwise (fun _ _ _ _ h1 h2 => List.le_antisymm h1 h2) hs (sortP_sorted L) (hp.trans (sortP_perm L).symm)
theorem sortP_len (L : List Str) : (sortP L).length = L.length := (sortP_perm L).length_eq
theorem sortP_mem {L : List Str} {s : Str} : s ∈ sortP L ↔ s ∈ L := (sortP_perm L).mem_iff
def rowS (l : Str) (B : List Str) : List Str := B.map fun r => [40] ++ l ++ r ++ [41]
def blkS (A B : List Str) : List Str := A.flatMap fun l => rowS l B
def preS (ls : List (List Str)) (M k : Nat) : List Str := (List.range k).flatMap fun k => blkS (ls.getD k []) (ls.getD (M - k) [])
def al : Nat → List (List Str)
  | 0 => [[[46]]]
  | m + 1 => al m ++ [sortP (preS (al m) m (m + 1))]
theorem rowS_take {l : Str} {B : List Str} {j : Nat} (h : j < B.length) : rowS l (B.take (j + 1)) = rowS l (B.take j) ++ [[40] ++ l ++ B.getD j [] ++ [41]] := by
  unfold rowS
  rw [List.take_succ_eq_append_getElem h, show B.getD j [] = B[j] by simp [List.getD, h], List.map_append, List.map_cons, List.map_nil]
theorem blkS_take {A B : List Str} {i : Nat} (h : i < A.length) : blkS (A.take (i + 1)) B = blkS (A.take i) B ++ rowS (A.getD i []) B := by
  unfold blkS
  rw [List.take_succ_eq_append_getElem h, show A.getD i [] = A[i] by simp [List.getD, h], List.flatMap_append, List.flatMap_cons, List.flatMap_nil, List.append_nil]
theorem preS_succ (ls : List (List Str)) (M k : Nat) : preS ls M (k + 1) = preS ls M k ++ blkS (ls.getD k []) (ls.getD (M - k) []) := by
  unfold preS
  rw [List.range_succ]
  simp
theorem rowS_len (l : Str) (B : List Str) : (rowS l B).length = B.length := by simp [rowS]
theorem blkS_len (A B : List Str) : (blkS A B).length = A.length * B.length := by
  induction A with
  | nil => simp [blkS]
  | cons a A ih =>
    have : blkS (a :: A) B = rowS a B ++ blkS A B := by simp [blkS]
    rw [this, List.length_append, ih, rowS_len, List.length_cons, Nat.add_mul]; omega
theorem preS_len_mono (ls : List (List Str)) (M : Nat) : ∀ {k k' : Nat}, k ≤ k' → (preS ls M k).length ≤ (preS ls M k').length
  | k, 0, h => by obtain rfl : k = 0 := by omega
                  exact Nat.le_refl _
  | k, k' + 1, h => by
    by_cases e : k = k' + 1
    · subst e; exact Nat.le_refl _
    · have := preS_len_mono ls M (k := k) (k' := k') (by omega)
      rw [preS_succ, List.length_append]; omega
theorem al_len : ∀ m, (al m).length = m + 1
  | 0 => rfl
  | m + 1 => by simp [al, al_len m]
theorem al_old {m k : Nat} (h : k ≤ m) : (al (m + 1)).getD k [] = (al m).getD k [] := by
  have := al_len m
  simp only [al, List.getD_eq_getElem?_getD]
  rw [List.getElem?_append_left (by omega)]
theorem al_new (m : Nat) : (al (m + 1)).getD (m + 1) [] = sortP (preS (al m) m (m + 1)) := by
  have := al_len m
  simp only [al, List.getD_eq_getElem?_getD]
  rw [List.getElem?_append_right (by omega), this]
  simp
/-- The trees with n forks, in ascending order. -/
def allS (n : Nat) : List Str := (al n).getD n []
theorem al_get : ∀ {m k : Nat}, k ≤ m → (al m).getD k [] = allS k
  | 0, k, h => by obtain rfl : k = 0 := by omega
                  rfl
  | m + 1, k, h => by
    by_cases e : k = m + 1
    · subst e; rfl
    · rw [al_old (by omega)]; exact al_get (by omega)
theorem allS_succ (m : Nat) : allS (m + 1) = sortP (preS (al m) m (m + 1)) := al_new m
theorem mem_preS {ls : List (List Str)} {M k : Nat} {s : Str} : s ∈ preS ls M k ↔ ∃ j, j < k ∧ ∃ l, l ∈ ls.getD j [] ∧ ∃ r, r ∈ ls.getD (M - j) [] ∧ s = [40] ++ l ++ r ++ [41] := by
  simp only [preS, blkS, rowS, List.mem_flatMap, List.mem_range, List.mem_map]
  constructor
  · rintro ⟨j, hj, l, hl, r, hr, rfl⟩; exact ⟨j, hj, l, hl, r, hr, rfl⟩
  · rintro ⟨j, hj, l, hl, r, hr, rfl⟩; exact ⟨j, hj, l, hl, r, hr, rfl⟩
theorem allS_mem : ∀ (n : Nat) (s : Str), s ∈ allS n ↔ ∃ t : T, s = t.text ∧ t.size = n := by
  intro n
  induction n using Nat.strongRecOn with
  | _ n ih =>
    intro s
    cases n with
    | zero =>
      show s ∈ [[46]] ↔ _
      rw [List.mem_singleton]
      constructor
      · rintro rfl; exact ⟨.lf, rfl, rfl⟩
      · rintro ⟨t, rfl, ht⟩
        cases t with
        | lf => rfl
        | nd l r => simp only [T.size] at ht; omega
    | succ m =>
      rw [allS_succ, sortP_mem, mem_preS]
      constructor
      · rintro ⟨j, hj, l, hl, r, hr, rfl⟩
        rw [al_get (by omega)] at hl hr
        obtain ⟨a, rfl, ha⟩ := (ih j (by omega) l).1 hl
        obtain ⟨b, rfl, hb⟩ := (ih (m - j) (by omega) r).1 hr
        exact ⟨.nd a b, rfl, by simp only [T.size]; omega⟩
      · rintro ⟨t, rfl, ht⟩
        cases t with
        | lf => simp [T.size] at ht
        | nd a b =>
          simp only [T.size] at ht
          refine ⟨a.size, by omega, a.text, ?_, b.text, ?_, rfl⟩
          · rw [al_get (by omega)]; exact (ih a.size (by omega) _).2 ⟨a, rfl, rfl⟩
          · rw [al_get (by omega)]; exact (ih (m - a.size) (by omega) _).2 ⟨b, rfl, by omega⟩
theorem allS_sorted : ∀ n, (allS n).Pairwise (· ≤ ·)
  | 0 => by show List.Pairwise _ [[46]]; simp
  | m + 1 => by rw [allS_succ]; exact sortP_sorted _
theorem allS_nodup : ∀ n, (allS n).Nodup := by
  intro n
  induction n using Nat.strongRecOn with
  | _ n ih =>
    cases n with
    | zero => show List.Nodup [[46]]; simp
    | succ m =>
      rw [allS_succ, (sortP_perm _).nodup_iff]
      have hinj : ∀ {j j' : Nat} {l r l' r' : Str}, l ∈ allS j → r ∈ allS (m - j) → l' ∈ allS j' → r' ∈ allS (m - j') → [40] ++ l ++ r ++ [41] = [40] ++ l' ++ r' ++ [41] → l = l' ∧ r = r' ∧ j = j' := by
        intro j j' l r l' r' hl hr hl' hr' e
        obtain ⟨a, rfl, ha⟩ := (allS_mem _ _).1 hl
        obtain ⟨b, rfl, hb⟩ := (allS_mem _ _).1 hr
        obtain ⟨a', rfl, ha'⟩ := (allS_mem _ _).1 hl'
        obtain ⟨b', rfl, hb'⟩ := (allS_mem _ _).1 hr'
        have : (T.nd a b).text = (T.nd a' b').text := e
        have := text_inj this
        cases this
        exact ⟨rfl, rfl, by omega⟩
      unfold List.Nodup preS blkS rowS
      rw [List.pairwise_flatMap]
      refine ⟨fun j hj => ?_, ?_⟩
      · rw [List.mem_range] at hj
        rw [al_get (by omega), al_get (by omega), List.pairwise_flatMap]
        refine ⟨fun l hl => ?_, ?_⟩
        · rw [List.pairwise_map]
          exact (ih (m - j) (by omega)).imp_of_mem fun hr hr' hne e => hne (hinj hl hr hl hr' e).2.1
        · refine (ih j (by omega)).imp_of_mem fun hl hl' hne x hx y hy e => ?_
          rw [List.mem_map] at hx hy
          obtain ⟨r, hr, rfl⟩ := hx
          obtain ⟨r', hr', rfl⟩ := hy
          exact hne (hinj hl hr hl' hr' e).1
      · refine List.nodup_range.imp_of_mem fun {j j'} hj hj' hne x hx y hy e => ?_
        rw [List.mem_range] at hj hj'
        rw [al_get (by omega), al_get (by omega)] at hx hy
        simp only [List.mem_flatMap, List.mem_map] at hx hy
        obtain ⟨l, hl, r, hr, rfl⟩ := hx
        obtain ⟨l', hl', r', hr', rfl⟩ := hy
        exact hne (hinj hl hr hl' hr' e).2.2
def cat : Nat → List Nat
  | 0 => [1]
  | m + 1 => cat m ++ [((List.range (m + 1)).map fun k => (cat m).getD k 0 * (cat m).getD (m - k) 0).sum]
theorem preS_len (ls : List (List Str)) (M : Nat) : ∀ k, (preS ls M k).length = ((List.range k).map fun k => (ls.getD k []).length * (ls.getD (M - k) []).length).sum
  | 0 => rfl
  | k + 1 => by rw [preS_succ, List.length_append, preS_len ls M k, blkS_len, List.range_succ]; simp
theorem getD_map_len (ls : List (List Str)) (k : Nat) : (ls.map List.length).getD k 0 = (ls.getD k []).length := by
  simp only [List.getD_eq_getElem?_getD, List.getElem?_map]
  cases ls[k]? <;> rfl
theorem al_cat : ∀ m, (al m).map List.length = cat m
  | 0 => rfl
  | m + 1 => by
    have ih := al_cat m
    simp only [al, cat, List.map_append, List.map_cons, List.map_nil, ih, sortP_len, preS_len]
    congr 3
    refine List.map_congr_left fun k _ => ?_
    rw [← ih, getD_map_len, getD_map_len]
theorem cat_bnd : ∀ n, n < 11 → (cat n).getD n 0 ≤ 16796 := by decide +kernel
theorem allS_len {n : Nat} (h : n ≤ 10) : (allS n).length ≤ 16796 := by
  have := cat_bnd n (by omega)
  rw [← al_cat, getD_map_len] at this
  exact this
theorem preS_bnd {m k : Nat} (hm : m + 1 ≤ 10) (hk : k ≤ m + 1) : (preS (al m) m k).length ≤ 16796 := by
  have h1 := preS_len_mono (al m) m hk
  have h2 := allS_len hm
  rw [allS_succ, sortP_len] at h2
  omega
theorem allS_text {n : Nat} {s : Str} (h : s ∈ allS n) : s.length = 3 * n + 1 := by
  obtain ⟨t, rfl, ht⟩ := (allS_mem _ _).1 h
  rw [T.text_len, ht]
theorem allS_lt {n i j : Nat} {a b : Str} (hij : i < j) (ha : (allS n)[i]? = some a) (hb : (allS n)[j]? = some b) : a < b := by
  have h1 := (List.getElem?_eq_some_iff.1 ha)
  have h2 := (List.getElem?_eq_some_iff.1 hb)
  obtain ⟨h1, rfl⟩ := h1
  obtain ⟨h2, rfl⟩ := h2
  have hle := List.pairwise_iff_getElem.1 (allS_sorted n) i j h1 h2 hij
  have hne := List.pairwise_iff_getElem.1 (allS_nodup n) i j h1 h2 hij
  exact Decidable.byContradiction fun h => hne (List.le_antisymm hle (List.not_lt.1 h))
end Go.Proofs.YtocgehoffdjijaaGreat
/- top: seals, plain: counts, cuts, the fewest fair ones. -/
namespace Go.Proofs.YtocgehoffdjijaaGreat
def cntc (s : Str) (k : Nat) : Nat := s.countP fun c => c.toNat == 97 + k
def okC (s : Str) : Bool := decide (s.length ≤ 24) && s.all fun c => decide (97 ≤ c.toNat) && decide (c.toNat ≤ 100)
def evenC (s : Str) : Bool := okC s && ((cntc s 0) % 2 == 0 && (cntc s 1) % 2 == 0 && (cntc s 2) % 2 == 0 && (cntc s 3) % 2 == 0)
def kd (s : Str) : Nat := min (cntc s 0) 1 + min (cntc s 1) 1 + min (cntc s 2) 1 + min (cntc s 3) 1
/-- The pieces of both carriers, from a position on. -/
def shs (s : Str) : List Nat → Nat → Str × Str
  | [], at_ => (s.drop at_, [])
  | c :: r, at_ => ((s.drop at_).take (c - at_) ++ (shs s r c).2, (shs s r c).1)
def eqc (a b : Str) : Bool := cntc a 0 == cntc b 0 && cntc a 1 == cntc b 1 && cntc a 2 == cntc b 2 && cntc a 3 == cntc b 3
def fairC (s : Str) (L : List Nat) : Bool := eqc (shs s L 0).1 (shs s L 0).2
/-- The lists of k further ascending positions, behind L, from a position on. -/
def lsts (to : Nat) : Nat → List Nat → Nat → List (List Nat)
  | 0, L, _ => [L]
  | k + 1, L, a => (List.range' a (to - a)).flatMap fun x => lsts to k (L ++ [x]) (x + 1)
def allL (s : Str) : List (List Nat) := (List.range (kd s + 1)).flatMap fun m => lsts s.length m [] 1
def leastC (s : Str) : Option (List Nat) := (allL s).find? (fairC s)
/-- The chain of a text. -/
def chainT : Str → Str
  | [] => []
  | c :: r => (if c = 40 then [97, 97] else if c = 46 then [98, 98] else []) ++ chainT r
def cutsOk (s : Str) : List Nat → Nat → Bool
  | [], _ => true
  | c :: r, a => decide (a ≤ c) && decide (c + 1 ≤ s.length) && cutsOk s r (c + 1)
/-- What is asked of a tree's chain. -/
def forkB (n : Nat) (s : Str) : Bool := match leastC s with
  | none => false
  | some L => evenC s && cutsOk s L 1 && fairC s L && decide (1 ≤ L.length) && decide (L.length ≤ if n = 0 then 1 else 2)
theorem mem_succ {m : Nat} {s : Str} (h : s ∈ allS (m + 1)) : ∃ j, j ≤ m ∧ ∃ l, l ∈ allS j ∧ ∃ r, r ∈ allS (m - j) ∧ s = [40] ++ l ++ r ++ [41] := by
  rw [allS_succ, sortP_mem, mem_preS] at h
  obtain ⟨j, hj, l, hl, r, hr, rfl⟩ := h
  rw [al_get (by omega)] at hl hr
  exact ⟨j, by omega, l, hl, r, hr, rfl⟩
def xs0 : List Str := [[46]]
def xsN (A B : List Str) : List Str := A.flatMap fun l => B.map fun r => [40] ++ l ++ r ++ [41]
def xs1 : List Str := xsN xs0 xs0
def xs2 : List Str := xsN xs0 xs1 ++ xsN xs1 xs0
def xs3 : List Str := xsN xs0 xs2 ++ xsN xs1 xs1 ++ xsN xs2 xs0
theorem mem_xsN {A B : List Str} {l r : Str} (hl : l ∈ A) (hr : r ∈ B) : [40] ++ l ++ r ++ [41] ∈ xsN A B :=
  List.mem_flatMap.2 ⟨l, hl, List.mem_map.2 ⟨r, hr, rfl⟩⟩
theorem mem0 {s : Str} (h : s ∈ allS 0) : s ∈ xs0 := h
theorem mem1 {s : Str} (h : s ∈ allS 1) : s ∈ xs1 := by
  obtain ⟨j, hj, l, hl, r, hr, rfl⟩ := mem_succ h
  obtain rfl : j = 0 := by omega
  exact mem_xsN (mem0 hl) (mem0 hr)
theorem mem2 {s : Str} (h : s ∈ allS 2) : s ∈ xs2 := by
  obtain ⟨j, hj, l, hl, r, hr, rfl⟩ := mem_succ h
  rcases (by omega : j = 0 ∨ j = 1) with rfl | rfl
  · exact List.mem_append_left _ (mem_xsN (mem0 hl) (mem1 hr))
  · exact List.mem_append_right _ (mem_xsN (mem1 hl) (mem0 hr))
theorem mem3 {s : Str} (h : s ∈ allS 3) : s ∈ xs3 := by
  obtain ⟨j, hj, l, hl, r, hr, rfl⟩ := mem_succ h
  rcases (by omega : j = 0 ∨ j = 1 ∨ j = 2) with rfl | rfl | rfl
  · exact List.mem_append_left _ (List.mem_append_left _ (mem_xsN (mem0 hl) (mem2 hr)))
  · exact List.mem_append_left _ (List.mem_append_right _ (mem_xsN (mem1 hl) (mem1 hr)))
  · exact List.mem_append_right _ (mem_xsN (mem2 hl) (mem0 hr))
theorem forkB0 : xs0.all (fun s => forkB 0 (chainT s)) = true := by decide +kernel
theorem forkB1 : xs1.all (fun s => forkB 1 (chainT s)) = true := by decide +kernel
theorem forkB2 : xs2.all (fun s => forkB 2 (chainT s)) = true := by decide +kernel
theorem forkB3 : xs3.all (fun s => forkB 3 (chainT s)) = true := by decide +kernel
theorem fork_ok {n : Nat} {s : Str} (hn : n ≤ 3) (h : s ∈ allS n) : ∃ L, leastC (chainT s) = some L ∧ evenC (chainT s) = true ∧ cutsOk (chainT s) L 1 = true ∧ fairC (chainT s) L = true ∧ 1 ≤ L.length ∧ L.length ≤ (if n = 0 then 1 else 2) := by
  have hb : forkB n (chainT s) = true := by
    rcases (by omega : n = 0 ∨ n = 1 ∨ n = 2 ∨ n = 3) with rfl | rfl | rfl | rfl
    · exact List.all_eq_true.1 forkB0 _ (mem0 h)
    · exact List.all_eq_true.1 forkB1 _ (mem1 h)
    · exact List.all_eq_true.1 forkB2 _ (mem2 h)
    · exact List.all_eq_true.1 forkB3 _ (mem3 h)
  unfold forkB at hb
  split at hb
  · cases hb
  · next L e =>
    simp only [Bool.and_eq_true, decide_eq_true_eq] at hb
    exact ⟨L, e, hb.1.1.1.1, hb.1.1.1.2, hb.1.1.2, hb.1.2, hb.2⟩
end Go.Proofs.YtocgehoffdjijaaGreat
