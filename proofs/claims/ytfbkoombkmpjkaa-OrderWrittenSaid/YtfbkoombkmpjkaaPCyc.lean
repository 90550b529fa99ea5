/- order: plain facts on the cycles of an order. -/
import Derived.Test.YtfbkoombkmpjkaaRows
namespace Go.Proofs.Ytfbkoombkmpjkaa
namespace CY
theorem pig : ∀ (n m : Nat) (p : Nat → Nat), (∀ j, j < m → p j < n) → (∀ a b, a < b → b < m → p a ≠ p b) → m ≤ n
  | 0, m, p, h1, _ => by
    apply Nat.le_of_not_lt
    intro h
    have := h1 0 h
    omega
  | n + 1, m, p, h1, h2 => by
    by_cases hx : ∃ j, j < m ∧ p j = n
    · obtain ⟨j0, hj, hp⟩ := hx
      have := pig n (m - 1) (fun j => if j < j0 then p j else p (j + 1)) (fun j hjm => ?_) (fun a b hab hb => ?_)
      · omega
      · split
        · have h3 := h1 j (by omega)
          have := h2 j j0 (by omega) hj
          omega
        · have h3 := h1 (j + 1) (by omega)
          have := h2 j0 (j + 1) (by omega) (by omega)
          omega
      · split
        · split
          · exact h2 a b hab (by omega)
          · exact h2 a (b + 1) (by omega) (by omega)
        · rw [if_neg (by omega)]
          exact h2 (a + 1) (b + 1) (by omega) (by omega)
    · refine Nat.le_succ_of_le (pig n m p (fun j hj => ?_) h2)
      have h3 := h1 j hj
      have : p j ≠ n := fun e => hx ⟨j, hj, e⟩
      omega
/-- The place that follows a place. -/
def nxt (L : List Int) (i : Nat) : Nat := (L.getD i 0 - 1).toNat
def it (L : List Int) (i : Nat) : Nat → Nat
  | 0 => i
  | m + 1 => nxt L (it L i m)
def walk (L : List Int) (i : Nat) : Nat → Nat → List Int
  | _, 0 => []
  | x, k + 1 => if x = i then [] else ((x : Int) + 1) :: walk L i (nxt L x) k
/-- The cycle that begins at place i. -/
def cyc (L : List Int) (i : Nat) : List Int := ((i : Int) + 1) :: walk L i (nxt L i) L.length
def top (L : List Int) (i : Nat) : Prop := ∀ y ∈ cyc L i, y ≤ (i : Int) + 1
instance (L : List Int) (i : Nat) : Decidable (top L i) := by unfold top; infer_instance
/-- The cycles whose greatest number is among the first n, each with this one first. -/
def cycs (L : List Int) : Nat → List (List Int)
  | 0 => []
  | i + 1 => cycs L i ++ if top L i then [cyc L i] else []
structure Ok (L : List Int) : Prop where
  rng : ∀ i, i < L.length → 1 ≤ L.getD i 0 ∧ L.getD i 0 ≤ L.length
  inj : ∀ i k, k < i → i < L.length → L.getD k 0 ≠ L.getD i 0
section
variable {L : List Int} {i : Nat}
theorem Ok.nxt_lt (h : Ok L) (hi : i < L.length) : nxt L i < L.length ∧ (nxt L i : Int) + 1 = L.getD i 0 := by
  have := h.rng i hi
  unfold nxt
  omega
theorem Ok.it_lt (h : Ok L) (hi : i < L.length) : ∀ m, it L i m < L.length
  | 0 => hi
  | m + 1 => (h.nxt_lt (h.it_lt hi m)).1
theorem Ok.nxt_inj (h : Ok L) {a b : Nat} (ha : a < L.length) (hb : b < L.length) (e : nxt L a = nxt L b) : a = b := by
  have h1 := (h.nxt_lt ha).2
  have h2 := (h.nxt_lt hb).2
  have h3 : L.getD a 0 = L.getD b 0 := by rw [← h1, ← h2, e]
  rcases Nat.lt_trichotomy a b with hl | hl | hl
  · exact absurd h3 (h.inj b a hl hb)
  · exact hl
  · exact absurd h3.symm (h.inj a b hl ha)
theorem Ok.it_back (h : Ok L) (hi : i < L.length) : ∀ {a d : Nat}, it L i a = it L i (a + d) → it L i d = i
  | 0, d, e => by rw [Nat.zero_add] at e; exact e.symm
  | a + 1, d, e => by
    refine h.it_back hi (a := a) (d := d) (h.nxt_inj (h.it_lt hi _) (h.it_lt hi _) ?_)
    rw [show a + 1 + d = (a + d) + 1 by omega] at e
    exact e
/-- Without a return up to step m, m + 1 places are visited. -/
theorem Ok.it_len (h : Ok L) (hi : i < L.length) {m : Nat} (hm : ∀ j, 1 ≤ j → j ≤ m → it L i j ≠ i) : m + 1 ≤ L.length :=
  pig L.length (m + 1) (it L i) (fun j _ => h.it_lt hi j) fun a b hab hb e => by
    have := h.it_back hi (a := a) (d := b - a) (by rw [e]; congr 1; omega)
    exact hm (b - a) (by omega) (by omega) this
/-- What the walk has written when it comes back. -/
theorem walk_eq {m : Nat} (hne : ∀ j, 1 ≤ j → j ≤ m → it L i j ≠ i) (hret : it L i (m + 1) = i) : ∀ (d a fuel : Nat), 1 ≤ a → a + d = m + 1 → d < fuel → walk L i (it L i a) fuel = (List.range d).map fun j => (it L i (a + j) : Int) + 1
  | 0, a, fuel + 1, _, had, _ => by
    have : a = m + 1 := by omega
    subst this
    simp [walk, hret]
  | d + 1, a, fuel + 1, ha, had, hf => by
    have h1 := hne a ha (by omega)
    simp only [walk]
    rw [if_neg h1, show nxt L (it L i a) = it L i (a + 1) from rfl, walk_eq hne hret d (a + 1) fuel (by omega) (by omega) (by omega), List.range_succ_eq_map, List.map_cons, List.map_map]
    refine congr (congrArg _ rfl) (List.map_congr_left fun j _ => ?_)
    simp only [Function.comp, Nat.succ_eq_add_one]
    rw [show a + 1 + j = a + (j + 1) by omega]
theorem cyc_eq (h : Ok L) (hi : i < L.length) {m : Nat} (hne : ∀ j, 1 ≤ j → j ≤ m → it L i j ≠ i) (hret : it L i (m + 1) = i) : cyc L i = (List.range (m + 1)).map fun j => (it L i j : Int) + 1 := by
  have h1 := h.it_len hi hne
  have := walk_eq hne hret m 1 L.length (by omega) (by omega) (by omega)
  unfold cyc
  rw [show nxt L i = it L i 1 from rfl, this, List.range_succ_eq_map, List.map_cons, List.map_map]
  refine congr (congrArg _ rfl) (List.map_congr_left fun j _ => ?_)
  simp only [Function.comp, Nat.succ_eq_add_one]
  rw [show 1 + j = j + 1 by omega]
theorem walk_mem : ∀ (d a fuel : Nat), (∀ j, a ≤ j → j ≤ a + d → it L i j ≠ i) → d < fuel → ((it L i (a + d) : Int) + 1) ∈ walk L i (it L i a) fuel
  | 0, a, fuel + 1, h, _ => by
    simp only [walk]
    rw [if_neg (h a (by omega) (by omega))]
    simp
  | d + 1, a, fuel + 1, h, hf => by
    simp only [walk]
    rw [if_neg (h a (by omega) (by omega))]
    refine List.mem_cons_of_mem _ ?_
    have := walk_mem d (a + 1) fuel (fun j h1 h2 => h j (by omega) (by omega)) (by omega)
    rw [show a + (d + 1) = a + 1 + d by omega]
    exact this
/-- A greater number on the way: the cycle is written from there. -/
theorem not_top (h : Ok L) (hi : i < L.length) {m : Nat} (hne : ∀ j, 1 ≤ j → j ≤ m + 1 → it L i j ≠ i) (hgt : i < it L i (m + 1)) : ¬ top L i := by
  have h1 := h.it_len hi hne
  intro ht
  have hmem := walk_mem (L := L) (i := i) m 1 L.length (fun j a b => hne j a (by omega)) (by omega)
  have := ht _ (List.mem_cons_of_mem _ hmem)
  rw [show 1 + m = m + 1 by omega] at this
  omega
theorem top_of (h : Ok L) (hi : i < L.length) {m : Nat} (hne : ∀ j, 1 ≤ j → j ≤ m → it L i j ≠ i) (hret : it L i (m + 1) = i) : top L i ↔ ∀ j, 1 ≤ j → j ≤ m → it L i j < i := by
  unfold top
  rw [cyc_eq h hi hne hret]
  constructor
  · intro ht j h1 h2
    have := ht ((it L i j : Int) + 1) (List.mem_map.2 ⟨j, by simp; omega, rfl⟩)
    have := hne j h1 h2
    omega
  · intro hl y hy
    obtain ⟨j, hj, rfl⟩ := List.mem_map.1 hy
    simp at hj
    by_cases h0 : j = 0
    · subst h0; simp [it]
    · have := hl j (by omega) (by omega); omega
end
end CY
end Go.Proofs.Ytfbkoombkmpjkaa
