/- forks: the order and the ways, plain. -/
import Derived.Test.YtkdakleckdkhiaaPU
namespace Go.Proofs.Ytkdakleckdkhiaa
def up1 (x y : T) : Prop := ∃ k, k < x.size ∧ x.turn k true = some y
def adj (x y : T) : Prop := ∃ k b, k < x.size ∧ x.turn k b = some y
theorem up1_size {x y : T} (h : up1 x y) : y.size = x.size := by obtain ⟨k, _, h⟩ := h; exact turn_size _ _ _ _ h
theorem adj_size {x y : T} (h : adj x y) : y.size = x.size := by obtain ⟨k, b, _, h⟩ := h; exact turn_size _ _ _ _ h
theorem up1_adj {x y : T} (h : up1 x y) : adj x y := by obtain ⟨k, hk, h⟩ := h; exact ⟨k, true, hk, h⟩
theorem adj_symm {x y : T} (h : adj x y) : adj y x := by
  obtain ⟨k, b, hk, h⟩ := h
  obtain ⟨j, hj, hb⟩ := turn_back x k b y hk h
  exact ⟨j, !b, by rw [turn_size _ _ _ _ h]; exact hj, hb⟩
theorem up1_mirror {x y : T} (h : up1 x y) : up1 y.mirror x.mirror := by
  obtain ⟨k, hk, h⟩ := h
  obtain ⟨j, hj, hb⟩ := turn_back x k true y hk h
  have hs := turn_size _ _ _ _ h
  have := turn_mirror y j false x (by omega) hb
  exact ⟨y.size - 1 - j, by rw [T.mirror_size]; omega, this⟩
theorem up1_le {x y : T} (h : up1 x y) : x.le y := by obtain ⟨k, hk, h⟩ := h; exact (turn_le hk h).1
theorem up1_ne {x y : T} (h : up1 x y) : x ≠ y := by obtain ⟨k, hk, h⟩ := h; exact (turn_le hk h).2
def upN : Nat → T → T → Prop
  | 0, x, y => x = y
  | n + 1, x, y => ∃ z, up1 x z ∧ upN n z y
def pathN : Nat → T → T → Prop
  | 0, x, y => x = y
  | n + 1, x, y => ∃ z, adj x z ∧ pathN n z y
theorem upN_path : ∀ {n : Nat} {x y : T}, upN n x y → pathN n x y
  | 0, _, _, h => h
  | _ + 1, _, _, ⟨z, h, h'⟩ => ⟨z, up1_adj h, upN_path h'⟩
theorem upN_size : ∀ {n : Nat} {x y : T}, upN n x y → y.size = x.size
  | 0, _, _, h => by subst h; rfl
  | _ + 1, _, _, ⟨z, h, h'⟩ => by rw [upN_size h', up1_size h]
theorem path_size : ∀ {n : Nat} {x y : T}, pathN n x y → y.size = x.size
  | 0, _, _, h => by subst h; rfl
  | _ + 1, _, _, ⟨z, h, h'⟩ => by rw [path_size h', adj_size h]
theorem upN_le : ∀ {n : Nat} {x y : T}, upN n x y → x.le y
  | 0, _, _, h => by subst h; exact le_refl _
  | _ + 1, _, _, ⟨z, h, h'⟩ => le_trans (up1_size h).symm (up1_le h) (upN_le h')
theorem path_snoc : ∀ {n : Nat} {x y z : T}, pathN n x y → adj y z → pathN (n + 1) x z
  | 0, _, _, z, h, h' => by subst h; exact ⟨z, h', rfl⟩
  | _ + 1, _, _, _, ⟨u, h, h2⟩, h' => ⟨u, h, path_snoc h2 h'⟩
theorem path_unsnoc : ∀ {n : Nat} {x z : T}, pathN (n + 1) x z → ∃ y, pathN n x y ∧ adj y z
  | 0, x, _, ⟨u, h, h2⟩ => by have h2' : u = _ := h2; subst h2'; exact ⟨x, rfl, h⟩
  | _ + 1, _, _, ⟨u, h, h2⟩ => by
    obtain ⟨y, h3, h4⟩ := path_unsnoc h2
    exact ⟨y, ⟨u, h, h3⟩, h4⟩
theorem path_symm : ∀ {n : Nat} {x y : T}, pathN n x y → pathN n y x
  | 0, _, _, h => Eq.symm h
  | _ + 1, _, _, ⟨_, h, h2⟩ => path_snoc (path_symm h2) (adj_symm h)
theorem path_trans : ∀ {m n : Nat} {x y z : T}, pathN m x y → pathN n y z → pathN (m + n) x z
  | 0, n, _, _, _, h, h' => by subst h; rw [Nat.zero_add]; exact h'
  | m + 1, n, _, _, _, ⟨u, h, h2⟩, h' => by rw [show m + 1 + n = (m + n) + 1 by omega]; exact ⟨u, h, path_trans h2 h'⟩
theorem upN_snoc : ∀ {n : Nat} {x y z : T}, upN n x y → up1 y z → upN (n + 1) x z
  | 0, _, _, z, h, h' => by subst h; exact ⟨z, h', rfl⟩
  | _ + 1, _, _, _, ⟨u, h, h2⟩, h' => ⟨u, h, upN_snoc h2 h'⟩
theorem upN_unsnoc : ∀ {n : Nat} {x z : T}, upN (n + 1) x z → ∃ y, upN n x y ∧ up1 y z
  | 0, x, _, ⟨u, h, h2⟩ => by have h2' : u = _ := h2; subst h2'; exact ⟨x, rfl, h⟩
  | _ + 1, _, _, ⟨u, h, h2⟩ => by
    obtain ⟨y, h3, h4⟩ := upN_unsnoc h2
    exact ⟨y, ⟨u, h, h3⟩, h4⟩
theorem upN_mirror : ∀ {n : Nat} {x y : T}, upN n x y → upN n y.mirror x.mirror
  | 0, _, _, h => by subst h; exact rfl
  | _ + 1, _, _, ⟨_, h, h2⟩ => upN_snoc (upN_mirror h2) (up1_mirror h)
/- The sum of the vector. -/
def T.rk (x : T) : Int := x.vec.sum
theorem sum_le : ∀ {v w : List Int}, v.length = w.length → leV v w → v.sum ≤ w.sum
  | [], [], _, _ => Int.le_refl _
  | a :: v, b :: w, hl, h => by
    have h0 := h 0 (by simp)
    have := sum_le (v := v) (w := w) (by simpa using hl) fun i hi => by have := h (i + 1) (by simpa using hi); simpa using this
    simp at h0
    simp only [List.sum_cons]
    omega
theorem sum_set : ∀ {v : List Int} {i : Nat} {a : Int}, i < v.length → (v.set i a).sum = v.sum - v.getD i 0 + a
  | x :: v, 0, a, _ => by simp; omega
  | x :: v, i + 1, a, h => by
    have := sum_set (v := v) (i := i) (a := a) (by simpa using h)
    simp only [List.set_cons_succ, List.sum_cons, this, List.getD_cons_succ]
    omega
theorem rk_le {x y : T} (hs : x.size = y.size) (h : x.le y) : x.rk ≤ y.rk := sum_le (by rw [T.vec_len, T.vec_len, hs]) h
theorem rk_up {x y : T} (h : up1 x y) : x.rk + 1 ≤ y.rk := by
  obtain ⟨k, hk, h⟩ := h
  obtain ⟨q, hq, he, hv⟩ := turn_vec x k y hk h
  have hb := (x.vec_bnd k hk).1
  unfold T.rk
  rw [hv, sum_set (by rw [T.vec_len]; omega)]
  omega
theorem rk_upN : ∀ {n : Nat} {x y : T}, upN n x y → x.rk + n ≤ y.rk
  | 0, _, _, h => by subst h; simp
  | n + 1, _, _, ⟨z, h, h'⟩ => by
    have := rk_up h
    have := rk_upN h'
    omega
theorem sum_bnd : ∀ {v : List Int} {m : Int}, (∀ i, i < v.length → 0 ≤ v.getD i 0 ∧ v.getD i 0 ≤ m) → 0 ≤ v.sum ∧ v.sum ≤ v.length * m
  | [], m, _ => by simp
  | a :: v, m, h => by
    have h0 := h 0 (by simp)
    have := sum_bnd (v := v) (m := m) fun i hi => by have := h (i + 1) (by simpa using hi); simpa using this
    simp at h0
    simp only [List.sum_cons, List.length_cons]
    rw [Int.natCast_add, Int.add_mul]
    omega
theorem rk_nonneg (x : T) : 0 ≤ x.rk := (sum_bnd (m := x.size) fun i hi => by
  rw [T.vec_len] at hi; have := x.vec_bnd i hi; omega).1
theorem rk_bnd (x : T) : x.rk ≤ x.size * x.size := by
  have := (sum_bnd (v := x.vec) (m := x.size) fun i hi => by
    rw [T.vec_len] at hi; have := x.vec_bnd i hi; omega).2
  rw [T.vec_len] at this; exact this
/-- A tree is below another one exactly if right turns lead to it. -/
theorem le_upN {x y : T} (hs : x.size = y.size) (h : x.le y) : ∃ n, upN n x y := by
  induction hn : (y.rk - x.rk).toNat using Nat.strongRecOn generalizing x with
  | _ n ih =>
    by_cases he : x = y
    · exact ⟨0, he⟩
    · obtain ⟨k, z, hk, hz, hle⟩ := turn_toward hs h he
      have hu : up1 x z := ⟨k, hk, hz⟩
      have h1 := rk_up hu
      have hzs := up1_size hu
      have h2 := rk_le (by omega) hle
      obtain ⟨m, hm⟩ := ih (y.rk - z.rk).toNat (by omega) (by omega) hle rfl
      exact ⟨m + 1, z, hu, hm⟩
theorem mirror_anti {x y : T} (hs : x.size = y.size) (h : x.le y) : y.mirror.le x.mirror := by
  obtain ⟨n, hn⟩ := le_upN hs h
  exact upN_le (upN_mirror hn)
theorem mirror_le {x y : T} (hs : x.size = y.size) : y.mirror.le x.mirror ↔ x.le y := by
  refine ⟨fun h => ?_, mirror_anti hs⟩
  have := mirror_anti (by rw [T.mirror_size, T.mirror_size, hs]) h
  rwa [T.mirror_mirror, T.mirror_mirror] at this
theorem join_le {x y z : T} (h : x.size = y.size) (hz : z.size = x.size) : (x.join y).le z ↔ x.le z ∧ y.le z := by
  rw [← mirror_le (by rw [join_size h]; exact hz.symm)]
  unfold T.join
  rw [T.mirror_mirror, le_meet (by rw [T.mirror_size, T.mirror_size, h]) (by rw [T.mirror_size, T.mirror_size, hz]), mirror_le hz.symm, mirror_le (by omega)]
theorem join_comm (x y : T) (h : x.size = y.size) : x.join y = y.join x := by
  unfold T.join; rw [meet_comm _ _ (by rw [T.mirror_size, T.mirror_size, h])]
theorem le_join1 {x y : T} (h : x.size = y.size) : x.le (x.join y) := ((join_le h (join_size h)).1 (le_refl _)).1
theorem le_join2 {x y : T} (h : x.size = y.size) : y.le (x.join y) := ((join_le h (join_size h)).1 (le_refl _)).2
theorem join_meet {x y : T} (h : x.size = y.size) : x.join (x.meet y) = x := by
  have hm := meet_size h
  refine le_anti (join_size hm.symm) ((join_le hm.symm rfl).2 ⟨le_refl _, meet_le1 h⟩) (le_join1 hm.symm)
theorem meet_join {x y : T} (h : x.size = y.size) : x.meet (x.join y) = x := by
  have hj := join_size h
  refine le_anti (meet_size hj.symm) (meet_le1 hj.symm) ((le_meet hj.symm rfl).2 ⟨le_refl _, le_join1 h⟩)
theorem join_mirror {x y : T} : x.mirror.join y.mirror = (x.meet y).mirror := by
  unfold T.join; rw [T.mirror_mirror, T.mirror_mirror]
/- The comb. -/
def T.sp : T → Nat
  | .lf => 0
  | .nd _ r => 1 + r.sp
def comb : Nat → T
  | 0 => .lf
  | n + 1 => .nd .lf (comb n)
theorem comb_size : ∀ n, (comb n).size = n
  | 0 => rfl
  | n + 1 => by simp [comb, T.size, comb_size n]; omega
theorem sp_le : ∀ x : T, x.sp ≤ x.size
  | .lf => Nat.le_refl _
  | .nd l r => by have := sp_le r; simp only [T.sp, T.size]; omega
theorem sp_comb : ∀ x : T, x.sp = x.size → x = comb x.size
  | .lf, _ => rfl
  | .nd l r, h => by
    have := sp_le r
    simp only [T.sp, T.size] at h
    have hl : l = .lf := by
      cases l with
      | lf => rfl
      | nd a b => simp only [T.size] at h; omega
    subst hl
    have hr := sp_comb r (by simp only [T.size] at h; omega)
    simp only [T.size]
    rw [show 1 + 0 + r.size = r.size + 1 by omega, comb, ← hr]
theorem sp_step : ∀ x : T, x.sp ≠ x.size → ∃ y, up1 x y ∧ y.sp = x.sp + 1
  | .lf, h => absurd rfl h
  | .nd l r, h => by
    cases l with
    | nd a c => exact ⟨.nd a (.nd c r), ⟨(T.nd a c).size, by simp only [T.size]; omega, turn_eqR rfl⟩, by simp only [T.sp]; omega⟩
    | lf =>
      obtain ⟨y, ⟨k, hk, hy⟩, hs⟩ := sp_step r (by simp only [T.sp, T.size] at h; omega)
      refine ⟨.nd .lf y, ⟨k + 1, by simp only [T.size]; omega, ?_⟩, by simp only [T.sp]; omega⟩
      rw [turn_gt (by simp only [T.size]; omega), show k + 1 - T.lf.size - 1 = k by simp [T.size], hy]; rfl
theorem to_comb (x : T) : upN (x.size - x.sp) x (comb x.size) := by
  induction hn : x.size - x.sp using Nat.strongRecOn generalizing x with
  | _ n ih =>
    have hle := sp_le x
    by_cases h : x.sp = x.size
    · obtain rfl : n = 0 := by omega
      exact sp_comb x h
    · obtain ⟨y, hu, hs⟩ := sp_step x h
      have hys := up1_size hu
      obtain ⟨m, rfl⟩ : ∃ m, n = m + 1 := ⟨n - 1, by omega⟩
      have := ih m (by omega) y (by omega)
      rw [hys] at this
      exact ⟨y, hu, this⟩
theorem sp_pos {x : T} (h : x.size ≠ 0) : 1 ≤ x.sp := by
  cases x with
  | lf => exact absurd rfl h
  | nd l r => simp only [T.sp]; omega
/-- Any two trees with as many forks are joined by at most 2 (n - 1) turns. -/
theorem path_all {x y : T} (h : x.size = y.size) : ∃ n, n ≤ 2 * (x.size - 1) ∧ pathN n x y := by
  have h1 := upN_path (to_comb x)
  have h2 := path_symm (upN_path (to_comb y))
  rw [← h] at h2
  refine ⟨_, ?_, path_trans h1 h2⟩
  by_cases h0 : x.size = 0
  · omega
  · have := sp_pos h0
    have := sp_pos (x := y) (by omega)
    omega
open Classical in
noncomputable def leastN (p : Nat → Prop) : Nat := if h : ∃ n, p n ∧ ∀ k, p k → n ≤ k then Classical.choose h else 0
theorem least_ex {p : Nat → Prop} (h : ∃ n, p n) : ∃ n, p n ∧ ∀ k, p k → n ≤ k := by
  obtain ⟨n, hn⟩ := h
  induction n using Nat.strongRecOn with
  | _ n ih =>
    by_cases hk : ∃ k, k < n ∧ p k
    · obtain ⟨k, hlt, hp⟩ := hk; exact ih k hlt hp
    · exact ⟨n, hn, fun k hp => Nat.le_of_not_lt fun hlt => hk ⟨k, hlt, hp⟩⟩
theorem leastN_spec {p : Nat → Prop} (h : ∃ n, p n) : p (leastN p) ∧ ∀ k, p k → leastN p ≤ k := by
  unfold leastN
  rw [dif_pos (least_ex h)]
  exact Classical.choose_spec (least_ex h)
/-- The smallest number of turns. -/
noncomputable def dist (x y : T) : Nat := leastN fun n => pathN n x y
theorem dist_path {x y : T} (h : x.size = y.size) : pathN (dist x y) x y := (leastN_spec (p := fun n => pathN n x y) (let ⟨n, _, hn⟩ := path_all h; ⟨n, hn⟩)).1
theorem dist_le {x y : T} {n : Nat} (hn : pathN n x y) : dist x y ≤ n := (leastN_spec (p := fun n => pathN n x y) ⟨n, hn⟩).2 n hn
theorem dist_bnd {x y : T} (h : x.size = y.size) : dist x y ≤ 2 * (x.size - 1) := by
  obtain ⟨n, h1, h2⟩ := path_all h
  exact Nat.le_trans (dist_le h2) h1
theorem dist_self (x : T) : dist x x = 0 := Nat.le_zero.1 (dist_le (n := 0) rfl)
theorem dist_zero {x y : T} (h : x.size = y.size) (h0 : dist x y = 0) : x = y := by
  have := dist_path h
  rw [h0] at this; exact this
theorem dist_symm (x y : T) (h : x.size = y.size) : dist x y = dist y x :=
  Nat.le_antisymm (dist_le (path_symm (dist_path h.symm))) (dist_le (path_symm (dist_path h)))
theorem dist_adj {x y z : T} (h : x.size = y.size) (ha : adj y z) : dist x z ≤ dist x y + 1 := dist_le (path_snoc (dist_path h) ha)
/-- A tree at a greater distance has a neighbor one nearer. -/
theorem dist_pred {x y : T} {k : Nat} (h : x.size = y.size) (hd : dist x y = k + 1) : ∃ z, adj z y ∧ dist x z = k := by
  have hp := dist_path h
  rw [hd] at hp
  obtain ⟨z, h1, h2⟩ := path_unsnoc hp
  have h3 := dist_le h1
  have h4 := dist_adj (path_size h1).symm h2
  exact ⟨z, h2, by omega⟩
/- The greatest number of right turns. -/
def IsLp (x y : T) (n : Nat) : Prop := upN n x y ∧ ∀ k, upN k x y → k ≤ n
theorem isLp_unique {x y : T} {m n : Nat} (h : IsLp x y m) (h' : IsLp x y n) : m = n := Nat.le_antisymm (h'.2 _ h.1) (h.2 _ h'.1)
theorem isLp_self (x : T) : IsLp x x 0 := ⟨rfl, fun k hk => by have := rk_upN hk; omega⟩
theorem isLp_step {x y : T} {n : Nat} (hn : x ≠ y) (h1 : ∃ z m, up1 x z ∧ IsLp z y m ∧ n = m + 1) (h2 : ∀ z, up1 x z → z.le y → ∃ m, IsLp z y m ∧ m + 1 ≤ n) : IsLp x y n := by
  obtain ⟨z, m, hz, hm, rfl⟩ := h1
  refine ⟨⟨z, hz, hm.1⟩, fun k hk => ?_⟩
  cases k with
  | zero => exact absurd hk hn
  | succ k =>
    obtain ⟨u, hu, hk⟩ := hk
    obtain ⟨m', hm', hle⟩ := h2 u hu (upN_le hk)
    have := hm'.2 k hk
    omega
theorem isLp_dist {x y : T} {n : Nat} (h : IsLp x y n) : dist x y ≤ n := dist_le (upN_path h.1)
def ups (x : T) : List T := (List.range x.size).filterMap fun k => x.turn k true
def downs (x : T) : List T := (List.range x.size).filterMap fun k => x.turn k false
theorem mem_ups {x y : T} : y ∈ ups x ↔ up1 x y := by
  simp only [ups, List.mem_filterMap, List.mem_range, up1]
theorem mem_downs {x y : T} : y ∈ downs x ↔ ∃ k, k < x.size ∧ x.turn k false = some y := by
  simp only [downs, List.mem_filterMap, List.mem_range]
theorem mem_adj {x y : T} : adj x y ↔ y ∈ ups x ∨ y ∈ downs x := by
  rw [mem_ups, mem_downs]
  constructor
  · rintro ⟨k, b, hk, h⟩
    cases b with
    | true => exact .inl ⟨k, hk, h⟩
    | false => exact .inr ⟨k, hk, h⟩
  · rintro (⟨k, hk, h⟩ | ⟨k, hk, h⟩)
    · exact ⟨k, true, hk, h⟩
    · exact ⟨k, false, hk, h⟩
instance (x y : T) : Decidable (adj x y) := decidable_of_iff' _ mem_adj
def lpF : Nat → T → T → Nat
  | 0, _, _ => 0
  | n + 1, x, y => ((ups x).filter fun z => decide (z.le y)).foldl (fun m z => max m (1 + lpF n z y)) 0
theorem lpF_succ (n : Nat) (x y : T) : lpF (n + 1) x y = ((ups x).filter fun z => decide (z.le y)).foldl (fun m z => max m (1 + lpF n z y)) 0 := rfl
theorem foldl_max {α : Type} (f : α → Nat) : ∀ (l : List α) (m : Nat), m ≤ l.foldl (fun m z => max m (f z)) m ∧ (∀ z ∈ l, f z ≤ l.foldl (fun m z => max m (f z)) m) ∧ (l.foldl (fun m z => max m (f z)) m = m ∨ ∃ z ∈ l, l.foldl (fun m z => max m (f z)) m = f z)
  | [], m => ⟨Nat.le_refl _, by simp, .inl rfl⟩
  | a :: l, m => by
    obtain ⟨h1, h2, h3⟩ := foldl_max f l (max m (f a))
    simp only [List.foldl_cons]
    refine ⟨by omega, fun z hz => ?_, ?_⟩
    · rcases List.mem_cons.1 hz with rfl | hz
      · omega
      · exact h2 z hz
    · rcases h3 with h3 | ⟨z, hz, h3⟩
      · rcases Nat.le_total m (f a) with h | h
        · right; exact ⟨a, by simp, by rw [h3]; omega⟩
        · left; rw [h3]; omega
      · right; exact ⟨z, by simp [hz], h3⟩
theorem lpF_spec : ∀ (n : Nat) (x y : T), x.size = y.size → x.le y → y.rk - x.rk ≤ n → IsLp x y (lpF n x y)
  | 0, x, y, hs, hle, hn => by
    by_cases he : x = y
    · subst he; exact isLp_self _
    · obtain ⟨k, z, hk, hz, hzy⟩ := turn_toward hs hle he
      have hu : up1 x z := ⟨k, hk, hz⟩
      have := rk_up hu
      have := rk_le (by rw [up1_size hu, hs]) hzy
      omega
  | n + 1, x, y, hs, hle, hn => by
    have hf := foldl_max (fun z => 1 + lpF n z y) ((ups x).filter fun z => decide (z.le y)) 0
    obtain ⟨h1, h2, h3⟩ := hf
    have hmem : ∀ z, z ∈ (ups x).filter (fun z => decide (z.le y)) ↔ up1 x z ∧ z.le y := fun z => by rw [List.mem_filter, mem_ups, decide_eq_true_iff]
    have ih : ∀ z, up1 x z → z.le y → IsLp z y (lpF n z y) := fun z hz hzy => lpF_spec n z y (by rw [up1_size hz, hs]) hzy (by have := rk_up hz; omega)
    by_cases he : x = y
    · subst he
      have h0 : lpF (n + 1) x x = 0 := by
        rcases h3 with h3 | ⟨z, hz, h3⟩
        · exact h3
        · obtain ⟨hz1, hz2⟩ := (hmem z).1 hz
          have := rk_up hz1
          have := rk_le (by rw [up1_size hz1]) hz2
          omega
      rw [h0]; exact isLp_self _
    · obtain ⟨k, z0, hk, hz0, hzy0⟩ := turn_toward hs hle he
      have hu0 : up1 x z0 := ⟨k, hk, hz0⟩
      have hge := h2 z0 ((hmem z0).2 ⟨hu0, hzy0⟩)
      refine isLp_step he ?_ ?_
      · rcases h3 with h3 | ⟨z, hz, h3⟩
        · rw [h3] at hge; omega
        · obtain ⟨hz1, hz2⟩ := (hmem z).1 hz
          exact ⟨z, _, hz1, ih z hz1 hz2, by rw [lpF_succ, h3]; omega⟩
      · intro z hz hzy
        exact ⟨_, ih z hz hzy, by have := h2 z ((hmem z).2 ⟨hz, hzy⟩); rw [lpF_succ]; omega⟩
theorem isLp_ex {x y : T} (hs : x.size = y.size) (h : x.le y) : ∃ n, IsLp x y n := ⟨_, lpF_spec (y.rk - x.rk).toNat x y hs h (by omega)⟩
end Go.Proofs.Ytkdakleckdkhiaa
