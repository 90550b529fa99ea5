/- forks: all trees; the search of the shortest way, plain. -/
import Derived.Test.YtkdakleckdkhiaaPD
namespace Go.Proofs.Ytkdakleckdkhiaa
/- All trees. -/
def nxtT (ls : List (List T)) (m : Nat) : List T := (List.range (m + 1)).flatMap fun k => (ls.getD k []).flatMap fun l => (ls.getD (m - k) []).map fun r => T.nd l r
def tb : Nat → List (List T)
  | 0 => [[.lf]]
  | m + 1 => tb m ++ [nxtT (tb m) m]
theorem tb_len : ∀ m, (tb m).length = m + 1
  | 0 => rfl
  | m + 1 => by simp [tb, tb_len m]
theorem tb_old {m k : Nat} (h : k ≤ m) : (tb (m + 1)).getD k [] = (tb m).getD k [] := by
  have := tb_len m
  simp only [tb, List.getD_eq_getElem?_getD]
  rw [List.getElem?_append_left (by omega)]
theorem tb_new (m : Nat) : (tb (m + 1)).getD (m + 1) [] = nxtT (tb m) m := by
  have := tb_len m
  simp only [tb, List.getD_eq_getElem?_getD]
  rw [List.getElem?_append_right (by omega), this]
  simp
theorem tb_mem : ∀ (m n : Nat) (t : T), n ≤ m → (t ∈ (tb m).getD n [] ↔ t.size = n)
  | 0, n, t, h => by
    obtain rfl : n = 0 := by omega
    cases t <;> simp [tb, T.size]
  | m + 1, n, t, h => by
    by_cases hn : n ≤ m
    · rw [tb_old hn]; exact tb_mem m n t hn
    · obtain rfl : n = m + 1 := by omega
      rw [tb_new]
      simp only [nxtT, List.mem_flatMap, List.mem_range, List.mem_map]
      constructor
      · rintro ⟨k, hk, l, hl, r, hr, rfl⟩
        have h1 := (tb_mem m k l (by omega)).1 hl
        have h2 := (tb_mem m (m - k) r (by omega)).1 hr
        simp only [T.size]; omega
      · intro hs
        cases t with
        | lf => simp [T.size] at hs
        | nd l r =>
          simp only [T.size] at hs
          exact ⟨l.size, by omega, l, (tb_mem m l.size l (by omega)).2 rfl, r, (tb_mem m (m - l.size) r (by omega)).2 (by omega), rfl⟩
theorem nodup_len {α : Type} [DecidableEq α] : ∀ {l l' : List α}, l.Nodup → (∀ x ∈ l, x ∈ l') → l.length ≤ l'.length
  | [], _, _, _ => Nat.zero_le _
  | a :: l, l', hn, hs => by
    have ha := hs a (by simp)
    have hn' := List.nodup_cons.1 hn
    have := nodup_len (l := l) (l' := l'.erase a) hn'.2 fun x hx => (List.mem_erase_of_ne (fun e => hn'.1 (by rw [← e]; exact hx))).2 (hs x (by simp [hx]))
    rw [List.length_erase_of_mem ha] at this
    have := List.length_pos_of_mem ha
    simp only [List.length_cons]; omega
theorem trees7 : ∀ n, n < 8 → ((tb 7).getD n []).length ≤ 429 := by decide +kernel
/- The search. -/
structure Bfs (x : T) (Q : List T) (par : T → Option T) (i : Nat) : Prop where
  nod : Q.Nodup
  hd : Q[0]? = some x
  sz : ∀ t, t ∈ Q → t.size = x.size
  mem : ∀ t, t ∈ Q ↔ (par t).isSome = true
  px : par x = some x
  pr : ∀ t p, par t = some p → t ≠ x → adj p t ∧ dist x t = dist x p + 1 ∧ p ∈ Q
  srt : ∀ (j k : Nat) (tj tk : T), j ≤ k → Q[j]? = some tj → Q[k]? = some tk → dist x tj ≤ dist x tk
  cl : ∀ (j : Nat) (t z : T), j < i → Q[j]? = some t → adj t z → z ∈ Q
  near : ∀ (c t : T), Q[i]? = some c → t ∈ Q → dist x t ≤ dist x c + 1
  lt : ∀ (c u : T), Q[i]? = some c → u.size = x.size → dist x u < dist x c → ∃ j : Nat, j < i ∧ Q[j]? = some u
theorem bfs_init (x : T) : Bfs x [x] (fun t => if t = x then some x else none) 0 where
  nod := by simp
  hd := rfl
  sz := by simp
  mem := fun t => by by_cases h : t = x <;> simp [h]
  px := by simp
  pr := fun t p h hn => by simp [hn] at h
  srt := fun j k tj tk hjk h1 h2 => by
    cases j <;> cases k <;> simp_all
  cl := fun j t z h => by omega
  near := fun c t h1 h2 => by simp at h1 h2; subst h1; subst h2; omega
  lt := fun c u h1 _ h3 => by simp at h1; subst h1; rw [dist_self] at h3; omega
theorem Bfs.step {x c z : T} {Q : List T} {par : T → Option T} {i : Nat} (h : Bfs x Q par i) (hc : Q[i]? = some c) (ha : adj c z) (hz : z ∉ Q) : dist x z = dist x c + 1 := by
  have hcm : c ∈ Q := List.mem_of_getElem? hc
  have hcs := h.sz c hcm
  have hzs : x.size = z.size := by rw [adj_size ha]; exact hcs.symm
  have h1 := dist_adj hcs.symm ha
  refine Nat.le_antisymm h1 (Nat.lt_of_not_le fun hle => hz ?_)
  cases hd : dist x z with
  | zero =>
    have := dist_zero hzs hd
    subst this
    exact List.mem_of_getElem? h.hd
  | succ k =>
    obtain ⟨u, hu, hk⟩ := dist_pred hzs hd
    obtain ⟨j, hj, hq⟩ := h.lt c u hc (by rw [hzs, ← adj_size hu]) (by omega)
    exact h.cl j u z hj hq hu
theorem bfs_add {x c z : T} {Q : List T} {par : T → Option T} {i : Nat} (h : Bfs x Q par i) (hc : Q[i]? = some c) (ha : adj c z) (hz : z ∉ Q) : Bfs x (Q ++ [z]) (fun t => if t = z then some c else par t) i := by
  have hcm : c ∈ Q := List.mem_of_getElem? hc
  have hil : i < Q.length := (List.getElem?_eq_some_iff.1 hc).1
  have hd := h.step hc ha hz
  have hx : x ∈ Q := List.mem_of_getElem? h.hd
  have hxz : x ≠ z := fun e => hz (e ▸ hx)
  have old : ∀ {k : Nat} {t : T}, (Q ++ [z])[k]? = some t → Q[k]? = some t ∨ (k = Q.length ∧ t = z) := by
    intro k t hk
    by_cases hkl : k < Q.length
    · rw [List.getElem?_append_left hkl] at hk; exact .inl hk
    · rw [List.getElem?_append_right (by omega)] at hk
      by_cases h0 : k - Q.length = 0
      · rw [h0] at hk; simp at hk; exact .inr ⟨by omega, hk.symm⟩
      · rw [List.getElem?_eq_none (by simp; omega)] at hk; cases hk
  have hci : (Q ++ [z])[i]? = some c := by rw [List.getElem?_append_left hil]; exact hc
  constructor
  · rw [List.nodup_append]
    exact ⟨h.nod, by simp, fun a ha' b hb => by simp at hb; subst hb; rintro rfl; exact hz ha'⟩
  · rw [List.getElem?_append_left (by omega)]; exact h.hd
  · intro t ht
    rw [List.mem_append, List.mem_singleton] at ht
    rcases ht with ht | rfl
    · exact h.sz t ht
    · rw [adj_size ha]; exact h.sz c hcm
  · intro t
    rw [List.mem_append, List.mem_singleton]
    by_cases e : t = z
    · simp [e]
    · rw [if_neg e, ← h.mem t]; simp [e]
  · rw [if_neg hxz]; exact h.px
  · intro t p hp hn
    split at hp
    · cases hp
      rename_i e; subst e
      exact ⟨ha, hd, by simp [hcm]⟩
    · obtain ⟨h1, h2, h3⟩ := h.pr t p hp hn
      exact ⟨h1, h2, by simp [h3]⟩
  · intro j k tj tk hjk h1 h2
    rcases old h1 with h1' | ⟨rfl, rfl⟩
    · rcases old h2 with h2' | ⟨rfl, rfl⟩
      · exact h.srt j k tj tk hjk h1' h2'
      · have := h.near c tj hc (List.mem_of_getElem? h1'); omega
    · rcases old h2 with h2 | ⟨rfl, rfl⟩
      · have := (List.getElem?_eq_some_iff.1 h2).1; omega
      · omega
  · intro j t u hj ht hu
    rcases old ht with ht | ⟨rfl, rfl⟩
    · exact List.mem_append_left _ (h.cl j t u hj ht hu)
    · omega
  · intro c' t h1 h2
    rw [hci] at h1; cases h1
    rw [List.mem_append, List.mem_singleton] at h2
    rcases h2 with h2 | rfl
    · exact h.near c t hc h2
    · omega
  · intro c' u h1 h2 h3
    rw [hci] at h1; cases h1
    obtain ⟨j, hj, hq⟩ := h.lt c u hc h2 h3
    exact ⟨j, hj, by rw [List.getElem?_append_left (by omega)]; exact hq⟩
theorem bfs_next {x c : T} {Q : List T} {par : T → Option T} {i : Nat} (h : Bfs x Q par i) (hc : Q[i]? = some c) (hall : ∀ z, adj c z → z ∈ Q) : Bfs x Q par (i + 1) := by
  have hil : i < Q.length := (List.getElem?_eq_some_iff.1 hc).1
  have hcl : ∀ (j : Nat) (t z : T), j < i + 1 → Q[j]? = some t → adj t z → z ∈ Q := by
    intro j t z hj ht hz
    by_cases hji : j = i
    · subst hji; rw [hc] at ht; cases ht; exact hall z hz
    · exact h.cl j t z (by omega) ht hz
  refine ⟨h.nod, h.hd, h.sz, h.mem, h.px, h.pr, h.srt, hcl, ?_, ?_⟩
  · intro c' t h1 h2
    have := h.near c t hc h2
    have := h.srt i (i + 1) c c' (by omega) hc h1
    omega
  · intro c' u h1 h2 h3
    have hn := h.near c c' hc (List.mem_of_getElem? h1)
    by_cases hlt : dist x u < dist x c
    · obtain ⟨j, hj, hq⟩ := h.lt c u hc h2 hlt
      exact ⟨j, by omega, hq⟩
    · have hmem : u ∈ Q := by
        cases hd : dist x u with
        | zero => have := dist_zero h2.symm hd; subst this; exact List.mem_of_getElem? h.hd
        | succ k =>
          obtain ⟨z, hz, hk⟩ := dist_pred h2.symm hd
          obtain ⟨j, hj, hq⟩ := h.lt c z hc (by rw [← h2, ← adj_size hz]) (by omega)
          exact h.cl j z u hj hq hz
      obtain ⟨m, hm, e⟩ := List.getElem_of_mem hmem
      have hqm : Q[m]? = some u := by rw [List.getElem?_eq_getElem hm, e]
      refine ⟨m, Nat.lt_of_not_le fun hle => ?_, hqm⟩
      have := h.srt (i + 1) m c' u hle h1 hqm
      omega
theorem bfs_room {x y : T} {Q : List T} {par : T → Option T} {i : Nat} (h : Bfs x Q par i) (hy : y.size = x.size) (hn : y ∉ Q) : i < Q.length := by
  refine Nat.lt_of_not_le fun hle => hn ?_
  have hcl : ∀ t z, t ∈ Q → adj t z → z ∈ Q := by
    intro t z ht hz
    obtain ⟨m, hm, e⟩ := List.getElem_of_mem ht
    exact h.cl m t z (by omega) (by rw [List.getElem?_eq_getElem hm, e]) hz
  have hpath : ∀ n u v, pathN n u v → u ∈ Q → v ∈ Q := by
    intro n
    induction n with
    | zero => intro u v hp hu; have : u = v := hp; exact this ▸ hu
    | succ n ih => intro u v hp hu; obtain ⟨z, h1, h2⟩ := hp; exact ih z v h2 (hcl u z hu h1)
  exact hpath _ x y (dist_path hy.symm) (List.mem_of_getElem? h.hd)
theorem bfs_len {x : T} {Q : List T} {par : T → Option T} {i : Nat} (h : Bfs x Q par i) (hx : x.size ≤ 7) : Q.length ≤ 429 :=
  Nat.le_trans (nodup_len h.nod fun t ht => (tb_mem 7 x.size t hx).2 (h.sz t ht)) (trees7 x.size (by omega))
/-- A way: from t through r to y. -/
def chA : T → List T → T → Prop
  | t, [], y => t = y
  | t, z :: r, y => adj t z ∧ chA z r y
structure IsWay (x y : T) (W : List T) : Prop where
  len : W.length = dist x y + 1
  first : W[0]? = some x
  last : W[dist x y]? = some y
  step : ∀ (i : Nat) (a b : T), W[i]? = some a → W[i + 1]? = some b → adj a b
theorem chA_last : ∀ {t y : T} {r : List T}, chA t r y → (t :: r)[r.length]? = some y
  | t, y, [], h => by have : t = y := h; simp [this]
  | t, y, z :: r, h => by have := chA_last h.2; simpa using this
theorem chA_step : ∀ {t y : T} {r : List T}, chA t r y → ∀ (i : Nat) (a b : T), (t :: r)[i]? = some a → (t :: r)[i + 1]? = some b → adj a b
  | t, y, [], h, i, a, b, _, h2 => by simp at h2
  | t, y, z :: r, h, 0, a, b, h1, h2 => by simp at h1 h2; subst h1; subst h2; exact h.1
  | t, y, z :: r, h, i + 1, a, b, h1, h2 => chA_step h.2 i a b (by simpa using h1) (by simpa using h2)
theorem chA_way {x y : T} {r : List T} (h : chA x r y) (hl : r.length = dist x y) : IsWay x y (x :: r) :=
  ⟨by simp [hl], rfl, by rw [← hl]; exact chA_last h, chA_step h⟩
theorem way_size {x y : T} {W : List T} (h : IsWay x y W) : ∀ t, t ∈ W → t.size = x.size := by
  have : ∀ (i : Nat) (t : T), W[i]? = some t → t.size = x.size := by
    intro i
    induction i with
    | zero => intro t ht; rw [h.first] at ht; cases ht; rfl
    | succ i ih =>
      intro t ht
      obtain ⟨a, ha⟩ : ∃ a, W[i]? = some a := by
        have := (List.getElem?_eq_some_iff.1 ht).1
        exact ⟨W[i], by rw [List.getElem?_eq_getElem]⟩
      rw [adj_size (h.step i a t ha ht)]; exact ih a ha
  intro t ht
  obtain ⟨m, hm, e⟩ := List.getElem_of_mem ht
  exact this m t (by rw [List.getElem?_eq_getElem hm, e])
end Go.Proofs.Ytkdakleckdkhiaa
