/- order: plain facts on the cycles of an order; Plain: orders and their numbers. No program in sight; Plain law: sums over the places of an order; the inverse order has as many inversions, and as many cycles. No program in sight; Plain law: the rows that arise step by step, as functions of a place. No program in sight; Plain: the table of an order; its number. No program in sight; Plain law: an order and its table; the order with a number. No program in sight; Plain law: the order with a table, number by number; the order with a number. No program in sight; order: the reference's Factorial; the law OrderSums. -/
import Derived.Test.YtocgehoffdjijaaGreatCore
/- order: plain facts on the cycles of an order. -/
namespace Go.Proofs.YtocgehoffdjijaaGreat
namespace Od
set_option maxRecDepth 20000
namespace CY
theorem pig : ∀ (n m : Nat) (p : Nat → Nat), (∀ j, j < m → p j < n) → (∀ a b, a < b → b < m → p a ≠ p b) → m ≤ n
  | 0, m, p, h1, _ => by
    apply Nat.le_of_not_lt
    intro h
    have := h1 0 h
    omega
  | n + 1, m, p, h1, h2 => by
    by_cases hx : ∃ j, j < m ∧ p j = n
    · obtain ⟨j0, hj, hp⟩ := hx
      have := pig n (m - 1) (fun j => if j < j0 then p j else p (j + 1)) (fun j hjm => ?_) (fun a b hab hb => ?_)
      · omega
      · split
        · have h3 := h1 j (by omega)
          have := h2 j j0 (by omega) hj
          omega
        · have h3 := h1 (j + 1) (by omega)
          have := h2 j0 (j + 1) (by omega) (by omega)
          omega
      · split
        · split
          · exact h2 a b hab (by omega)
          · exact h2 a (b + 1) (by omega) (by omega)
        · rw [if_neg (by omega)]
          exact h2 (a + 1) (b + 1) (by omega) (by omega)
    · refine Nat.le_succ_of_le (pig n m p (fun j hj => ?_) h2)
      have h3 := h1 j hj
      have : p j ≠ n := fun e => hx ⟨j, hj, e⟩
      omega
/-- The place that follows a place. -/
def nxt (L : List Int) (i : Nat) : Nat := (L.getD i 0 - 1).toNat
def it (L : List Int) (i : Nat) : Nat → Nat
  | 0 => i
  | m + 1 => nxt L (it L i m)
def walk (L : List Int) (i : Nat) : Nat → Nat → List Int
  | _, 0 => []
  | x, k + 1 => if x = i then [] else ((x : Int) + 1) :: walk L i (nxt L x) k
/-- The cycle that begins at place i. -/
def cyc (L : List Int) (i : Nat) : List Int := ((i : Int) + 1) :: walk L i (nxt L i) L.length
def top (L : List Int) (i : Nat) : Prop := ∀ y ∈ cyc L i, y ≤ (i : Int) + 1
instance (L : List Int) (i : Nat) : Decidable (top L i) := by unfold top; infer_instance
/-- The cycles whose greatest number is among the first n, each with this one first. -/
def cycs (L : List Int) : Nat → List (List Int)
  | 0 => []
  | i + 1 => cycs L i ++ if top L i then [cyc L i] else []
structure Ok (L : List Int) : Prop where
  rng : ∀ i, i < L.length → 1 ≤ L.getD i 0 ∧ L.getD i 0 ≤ L.length
  inj : ∀ i k, k < i → i < L.length → L.getD k 0 ≠ L.getD i 0
section
variable {L : List Int} {i : Nat}
theorem Ok.nxt_lt (h : Ok L) (hi : i < L.length) : nxt L i < L.length ∧ (nxt L i : Int) + 1 = L.getD i 0 := by
  have := h.rng i hi
  unfold nxt
  omega
theorem Ok.it_lt (h : Ok L) (hi : i < L.length) : ∀ m, it L i m < L.length
  | 0 => hi
  | m + 1 => (h.nxt_lt (h.it_lt hi m)).1
theorem Ok.nxt_inj (h : Ok L) {a b : Nat} (ha : a < L.length) (hb : b < L.length) (e : nxt L a = nxt L b) : a = b := by
  have h1 := (h.nxt_lt ha).2
  have h2 := (h.nxt_lt hb).2
  have h3 : L.getD a 0 = L.getD b 0 := by rw [← h1, ← h2, e]
  rcases Nat.lt_trichotomy a b with hl | hl | hl
  · exact absurd h3 (h.inj b a hl hb)
  · exact hl
  · exact absurd h3.symm (h.inj a b hl ha)
theorem Ok.it_back (h : Ok L) (hi : i < L.length) : ∀ {a d : Nat}, it L i a = it L i (a + d) → it L i d = i
  | 0, d, e => by rw [Nat.zero_add] at e; exact e.symm
  | a + 1, d, e => by
    refine h.it_back hi (a := a) (d := d) (h.nxt_inj (h.it_lt hi _) (h.it_lt hi _) ?_)
    rw [show a + 1 + d = (a + d) + 1 by omega] at e
    exact e
/-- Without a return up to step m, m + 1 places are visited. -/
theorem Ok.it_len (h : Ok L) (hi : i < L.length) {m : Nat} (hm : ∀ j, 1 ≤ j → j ≤ m → it L i j ≠ i) : m + 1 ≤ L.length :=
  pig L.length (m + 1) (it L i) (fun j _ => h.it_lt hi j) fun a b hab hb e => by
    have := h.it_back hi (a := a) (d := b - a) (by rw [e]; congr 1; omega)
    exact hm (b - a) (by omega) (by omega) this
/-- What the walk has written when it comes back. -/
theorem walk_eq {m : Nat} (hne : ∀ j, 1 ≤ j → j ≤ m → it L i j ≠ i) (hret : it L i (m + 1) = i) : ∀ (d a fuel : Nat), 1 ≤ a → a + d = m + 1 → d < fuel → walk L i (it L i a) fuel = (List.range d).map fun j => (it L i (a + j) : Int) + 1
  | 0, a, fuel + 1, _, had, _ => by
    have : a = m + 1 := by omega
    subst this
    simp [walk, hret]
  | d + 1, a, fuel + 1, ha, had, hf => by
    have h1 := hne a ha (by omega)
    simp only [walk]
    rw [if_neg h1, show nxt L (it L i a) = it L i (a + 1) from rfl, walk_eq hne hret d (a + 1) fuel (by omega) (by omega) (by omega), List.range_succ_eq_map, List.map_cons, List.map_map]
    refine congr (congrArg _ rfl) (List.map_congr_left fun j _ => ?_)
    simp only [Function.comp, Nat.succ_eq_add_one]
    rw [show a + 1 + j = a + (j + 1) by omega]
theorem cyc_eq (h : Ok L) (hi : i < L.length) {m : Nat} (hne : ∀ j, 1 ≤ j → j ≤ m → it L i j ≠ i) (hret : it L i (m + 1) = i) : cyc L i = (List.range (m + 1)).map fun j => (it L i j : Int) + 1 := by
  have h1 := h.it_len hi hne
  have := walk_eq hne hret m 1 L.length (by omega) (by omega) (by omega)
  unfold cyc
  rw [show nxt L i = it L i 1 from rfl, this, List.range_succ_eq_map, List.map_cons, List.map_map]
  refine congr (congrArg _ rfl) (List.map_congr_left fun j _ => ?_)
  simp only [Function.comp, Nat.succ_eq_add_one]
  rw [show 1 + j = j + 1 by omega]
theorem walk_mem : ∀ (d a fuel : Nat), (∀ j, a ≤ j → j ≤ a + d → it L i j ≠ i) → d < fuel → ((it L i (a + d) : Int) + 1) ∈ walk L i (it L i a) fuel
  | 0, a, fuel + 1, h, _ => by
    simp only [walk]
    rw [if_neg (h a (by omega) (by omega))]
    simp
  | d + 1, a, fuel + 1, h, hf => by
    simp only [walk]
    rw [if_neg (h a (by omega) (by omega))]
    refine List.mem_cons_of_mem _ ?_
    have := walk_mem d (a + 1) fuel (fun j h1 h2 => h j (by omega) (by omega)) (by omega)
    rw [show a + (d + 1) = a + 1 + d by omega]
    exact this
/-- A greater number on the way: the cycle is written from there. -/
theorem not_top (h : Ok L) (hi : i < L.length) {m : Nat} (hne : ∀ j, 1 ≤ j → j ≤ m + 1 → it L i j ≠ i) (hgt : i < it L i (m + 1)) : ¬ top L i := by
  have h1 := h.it_len hi hne
  intro ht
  have hmem := walk_mem (L := L) (i := i) m 1 L.length (fun j a b => hne j a (by omega)) (by omega)
  have := ht _ (List.mem_cons_of_mem _ hmem)
  rw [show 1 + m = m + 1 by omega] at this
  omega
theorem top_of (h : Ok L) (hi : i < L.length) {m : Nat} (hne : ∀ j, 1 ≤ j → j ≤ m → it L i j ≠ i) (hret : it L i (m + 1) = i) : top L i ↔ ∀ j, 1 ≤ j → j ≤ m → it L i j < i := by
  unfold top
  rw [cyc_eq h hi hne hret]
  constructor
  · intro ht j h1 h2
    have := ht ((it L i j : Int) + 1) (List.mem_map.2 ⟨j, by simp; omega, rfl⟩)
    have := hne j h1 h2
    omega
  · intro hl y hy
    obtain ⟨j, hj, rfl⟩ := List.mem_map.1 hy
    simp at hj
    by_cases h0 : j = 0
    · subst h0; simp [it]
    · have := hl j (by omega) (by omega); omega
end
end CY
end Od
end Go.Proofs.YtocgehoffdjijaaGreat
/- Plain: orders and their numbers. No program in sight. -/
namespace Go.Proofs.YtocgehoffdjijaaGreat
namespace Od
set_option maxRecDepth 20000
open CY
theorem take_getD {L : List Int} {k i : Nat} (h : i < (L.take k).length) : (L.take k).getD i 0 = L.getD i 0 := by
  have : i < k := by simp at h; omega
  simp [List.getD, this]
/-- An order, as the document says it. -/
def IsOrd (L : List Int) : Prop := L.length ≤ 12 ∧ ∀ i, i < L.length → (1 ≤ L.getD i 0 ∧ L.getD i 0 ≤ L.length) ∧ ∀ k, k < i → L.getD k 0 ≠ L.getD i 0
instance (L : List Int) : Decidable (IsOrd L) := by unfold IsOrd; infer_instance
/-- How many of the numbers from place i + 1 to place n - 1 are smaller than the one at place i. -/
def cntB (L : List Int) (i : Nat) : Nat → Int
  | 0 => 0
  | n + 1 => cntB L i n + if i < n ∧ L.getD n 0 < L.getD i 0 then 1 else 0
theorem cntB_bnd {L : List Int} {i : Nat} : ∀ {n : Nat}, 0 ≤ cntB L i n ∧ cntB L i n ≤ n
  | 0 => by simp [cntB]
  | n + 1 => by
    have := cntB_bnd (L := L) (i := i) (n := n)
    simp only [cntB]
    split <;> omega
theorem cntB_zero {L : List Int} {i : Nat} : ∀ {n : Nat}, n ≤ i → cntB L i n = 0
  | 0, _ => rfl
  | n + 1, h => by
    simp only [cntB]
    rw [cntB_zero (by omega), if_neg (by omega)]
    rfl
theorem rep0 {n i : Nat} : (List.replicate n (0 : Int)).getD i 0 = 0 := by
  simp only [List.getD, List.getElem?_replicate]; split <;> rfl
theorem getD_set {α : Type} {L : List α} {i j : Nat} {a d : α} (hi : i < L.length) : (L.set i a).getD j d = if j = i then a else L.getD j d := by
  simp only [List.getD, List.getElem?_set]
  by_cases e : i = j
  · subst e; simp [hi]
  · simp [e, Ne.symm e]
/-- The inversions that begin at the first k places. -/
def invs (L : List Int) : Nat → Int
  | 0 => 0
  | k + 1 => invs L k + cntB L k L.length
theorem invs_bnd {L : List Int} : ∀ {k : Nat}, 0 ≤ invs L k ∧ invs L k ≤ k * L.length
  | 0 => by simp [invs]
  | k + 1 => by
    have h1 := invs_bnd (L := L) (k := k)
    have h2 := cntB_bnd (L := L) (i := k) (n := L.length)
    simp only [invs]
    have : ((k + 1 : Nat) : Int) * L.length = k * L.length + L.length := by
      push_cast; rw [Int.add_mul, Int.one_mul]
    omega
theorem invs_all {L : List Int} : ∀ {j : Nat}, invs L (L.length + j) = invs L L.length
  | 0 => rfl
  | j + 1 => by
    show invs L (L.length + j) + cntB L (L.length + j) L.length = _
    rw [invs_all, cntB_zero (by omega)]; omega
/-- The descents before place n. -/
def dsc (L : List Int) : Nat → List Int
  | 0 => []
  | n + 1 => dsc L n ++ if 1 ≤ n ∧ L.getD n 0 < L.getD (n - 1) 0 then [(n : Int)] else []
def sumI : List Int → Int
  | [] => 0
  | x :: r => x + sumI r
theorem sumI_snoc {l : List Int} {x : Int} : sumI (l ++ [x]) = sumI l + x := by
  induction l with
  | nil => simp [sumI]
  | cons y r ih => simp [sumI, ih]; omega
theorem dsc_len {L : List Int} : ∀ {n : Nat}, (dsc L n).length ≤ n ∧ ∀ x ∈ dsc L n, 0 ≤ x ∧ x < n
  | 0 => by simp [dsc]
  | n + 1 => by
    obtain ⟨h1, h2⟩ := dsc_len (L := L) (n := n)
    simp only [dsc]
    split
    · refine ⟨by simp; omega, fun x hx => ?_⟩
      rcases List.mem_append.1 hx with h | h
      · have := h2 x h; omega
      · simp at h; omega
    · refine ⟨by simp; omega, fun x hx => ?_⟩
      simp at hx
      have := h2 x hx; omega
def exc (L : List Int) : Nat → Int
  | 0 => 0
  | n + 1 => exc L n + if L.getD n 0 > (n : Int) + 1 then 1 else 0
theorem exc_bnd {L : List Int} : ∀ {n : Nat}, 0 ≤ exc L n ∧ exc L n ≤ n
  | 0 => by simp [exc]
  | n + 1 => by
    have := exc_bnd (L := L) (n := n)
    simp only [exc]
    split <;> omega
/-- The greatest number before place n, and the records' places. -/
def mostB (L : List Int) : Nat → Int
  | 0 => 0
  | n + 1 => if L.getD n 0 > mostB L n then L.getD n 0 else mostB L n
def recs (L : List Int) : Nat → List Int
  | 0 => []
  | n + 1 => recs L n ++ if L.getD n 0 > mostB L n then [(n : Int)] else []
theorem recs_len {L : List Int} : ∀ {n : Nat}, (recs L n).length ≤ n
  | 0 => by simp [recs]
  | n + 1 => by
    have := recs_len (L := L) (n := n)
    simp only [recs]
    split <;> simp <;> omega
theorem take_snocI {R : List Int} {i : Nat} (h : i < R.length) : R.take (i + 1) = R.take i ++ [R.getD i 0] := by
  rw [List.take_succ_eq_append_getElem h, show R.getD i 0 = R[i] by simp [List.getD, h]]
theorem sumI_bnd {l : List Int} {b : Int} (h : ∀ x ∈ l, 0 ≤ x ∧ x ≤ b) : 0 ≤ sumI l ∧ sumI l ≤ b * l.length := by
  induction l with
  | nil => simp [sumI]
  | cons y r ih =>
    have h1 := h y (by simp)
    have h2 := ih fun x hx => h x (by simp [hx])
    simp only [sumI, List.length_cons]
    push_cast
    rw [Int.mul_add, Int.mul_one]
    omega
theorem IsOrd.ok {L : List Int} (h : IsOrd L) : Ok L := ⟨fun i hi => (h.2 i hi).1, fun i k hk hi => (h.2 i hi).2 k hk⟩
def lead (L : List Int) (i m : Nat) : List Int := (List.range m).map fun j => (it L i j : Int) + 1
theorem lead_snoc {L : List Int} {i m : Nat} : lead L i (m + 1) = lead L i m ++ [(it L i m : Int) + 1] := by
  unfold lead; rw [List.range_succ, List.map_append]; rfl
theorem lead_len {L : List Int} {i m : Nat} : (lead L i m).length = m := by simp [lead]
theorem cycs_len {L : List Int} : ∀ {n : Nat}, (cycs L n).length ≤ n
  | 0 => by simp [cycs]
  | n + 1 => by
    have := cycs_len (L := L) (n := n)
    simp only [cycs]
    split <;> simp <;> omega
/-- The six numbers of an order. -/
def nums (L : List Int) : List Int := [invs L L.length, sumI (dsc L L.length), (dsc L L.length).length, exc L L.length, (cycs L L.length).length, (recs L L.length).length]
/-- What shifted has written after k numbers, and where the open part begins. -/
def shf (L : List Int) (a : Int) (g : Bool) : Nat → List Int × Nat
  | 0 => ([], 0)
  | k + 1 => if decide (a < L.getD k 0) = g then ((shf L a g k).1 ++ [L.getD k 0] ++ (L.drop (shf L a g k).2).take (k - (shf L a g k).2), k + 1) else shf L a g k
theorem shf_bnd {L : List Int} {a : Int} {g : Bool} : ∀ {k : Nat}, k ≤ L.length → (shf L a g k).2 ≤ k ∧ (shf L a g k).1.length = (shf L a g k).2
  | 0, _ => by simp [shf]
  | k + 1, h => by
    have := shf_bnd (L := L) (a := a) (g := g) (k := k) (by omega)
    simp only [shf]
    split
    · simp; omega
    · omega
/-- One number more in the second order. -/
def secStep (l : List Int) (a : Int) : List Int := (if l.length = 0 then l else (shf l a (decide (a < l.getD (l.length - 1) 0)) l.length).1) ++ [a]
def sec (L : List Int) : Nat → List Int
  | 0 => []
  | k + 1 => secStep (sec L k) (L.getD k 0)
theorem shf_all {l : List Int} {a : Int} (h : 0 < l.length) : (shf l a (decide (a < l.getD (l.length - 1) 0)) l.length).1.length = l.length := by
  rw [(shf_bnd (Nat.le_refl _)).2]
  obtain ⟨m, hm⟩ : ∃ m, l.length = m + 1 := ⟨l.length - 1, by omega⟩
  rw [hm]
  simp [shf]
theorem sec_len {L : List Int} : ∀ {k : Nat}, (sec L k).length = k
  | 0 => rfl
  | k + 1 => by
    have := sec_len (L := L) (k := k)
    simp only [sec, secStep]
    split
    · simp; omega
    · rw [List.length_append, shf_all (by omega)]; simp; omega
end Od
end Go.Proofs.YtocgehoffdjijaaGreat
/- Plain law: sums over the places of an order; the inverse order has as many inversions, and as many cycles. No program in sight. -/
namespace Go.Proofs.YtocgehoffdjijaaGreat
namespace Od
set_option maxRecDepth 20000
open CY
namespace PO
def sm (f : Nat → Int) : Nat → Int
  | 0 => 0
  | n + 1 => sm f n + f n
theorem sm_congr {f g : Nat → Int} : ∀ {n : Nat}, (∀ i, i < n → f i = g i) → sm f n = sm g n
  | 0, _ => rfl
  | n + 1, h => by simp only [sm]; rw [sm_congr fun i hi => h i (by omega), h n (by omega)]
theorem sm_add {f g : Nat → Int} : ∀ {n : Nat}, sm (fun k => f k + g k) n = sm f n + sm g n
  | 0 => rfl
  | n + 1 => by simp only [sm]; rw [sm_add]; omega
theorem sm_zero : ∀ {n : Nat}, sm (fun _ => 0) n = 0
  | 0 => rfl
  | n + 1 => by simp only [sm]; rw [sm_zero]; rfl
theorem sm_swap {F : Nat → Nat → Int} {m : Nat} : ∀ {n : Nat}, sm (fun i => sm (F i) m) n = sm (fun j => sm (fun i => F i j) n) m
  | 0 => by simp only [sm]; exact sm_zero.symm
  | n + 1 => by
    show sm (fun i => sm (F i) m) n + sm (F n) m = _
    rw [sm_swap (n := n), ← sm_add]
    rfl
theorem sm_skip {g : Nat → Int} {j0 : Nat} : ∀ {n : Nat}, j0 ≤ n → sm g (n + 1) = sm (fun j => if j < j0 then g j else g (j + 1)) n + g j0
  | 0, h => by
    have : j0 = 0 := by omega
    subst this
    simp [sm]
  | n + 1, h => by
    show sm g (n + 1) + g (n + 1) = (sm (fun j => if j < j0 then g j else g (j + 1)) n + (if n < j0 then g n else g (n + 1))) + g j0
    by_cases e : j0 = n + 1
    · subst e
      rw [if_pos (by omega)]
      rw [sm_congr (f := fun j => if j < n + 1 then g j else g (j + 1)) (g := g) fun i hi => if_pos (by omega)]
      show sm g n + g n + _ = _
      omega
    · rw [sm_skip (n := n) (j0 := j0) (by omega), if_neg (by omega)]
      omega
theorem sm_perm : ∀ {n : Nat} {p : Nat → Nat} {f : Nat → Int}, (∀ j, j < n → p j < n) → (∀ a b, a < b → b < n → p a ≠ p b) → sm (fun i => f (p i)) n = sm f n
  | 0, _, _, _, _ => rfl
  | n + 1, p, f, h1, h2 => by
    by_cases hx : ∃ j, j < n + 1 ∧ p j = n
    · obtain ⟨j0, hj, hp⟩ := hx
      rw [sm_skip (j0 := j0) (by omega)]
      have := sm_perm (n := n) (p := fun j => if j < j0 then p j else p (j + 1)) (f := f) (fun j hjm => ?_) (fun a b hab hb => ?_)
      · show _ = sm f n + f n
        rw [← this, hp]
        congr 1
        exact sm_congr fun i _ => by split <;> rfl
      · split
        · have h3 := h1 j (by omega)
          have := h2 j j0 (by omega) hj
          omega
        · have h3 := h1 (j + 1) (by omega)
          have := h2 j0 (j + 1) (by omega) (by omega)
          omega
      · split
        · split
          · exact h2 a b hab (by omega)
          · exact h2 a (b + 1) (by omega) (by omega)
        · rw [if_neg (by omega)]
          exact h2 (a + 1) (b + 1) (by omega) (by omega)
    · have := pig n (n + 1) p (fun j hj => by
        have := h1 j hj
        have : p j ≠ n := fun e => hx ⟨j, hj, e⟩
        omega) h2
      omega
/-- M is the inverse of L. -/
def IsInv (L M : List Int) : Prop := M.length = L.length ∧ ∀ i, i < L.length → M.getD (nxt L i) 0 = (i : Int) + 1
theorem surj {L : List Int} (h : Ok L) {x : Nat} (hx : x < L.length) : ∃ i, i < L.length ∧ nxt L i = x := by
  apply Classical.byContradiction
  intro hne
  have hne' : ∀ i, i < L.length → nxt L i ≠ x := fun i hi e => hne ⟨i, hi, e⟩
  have h1 := pig (L.length - 1) L.length (fun j => if nxt L j < x then nxt L j else nxt L j - 1) (fun j hj => by
    have := (h.nxt_lt hj).1
    have := hne' j hj
    show (if nxt L j < x then nxt L j else nxt L j - 1) < L.length - 1
    split <;> omega) (fun a b hab hb => by
    have h3 := hne' a (by omega)
    have h4 := hne' b hb
    have h5 : nxt L a ≠ nxt L b := fun e => by have := h.nxt_inj (by omega) hb e; omega
    show (if nxt L a < x then nxt L a else nxt L a - 1) ≠ (if nxt L b < x then nxt L b else nxt L b - 1)
    split <;> split <;> omega)
  omega
section
variable {L M : List Int}
theorem list_ext {A B : List Int} (h : A.length = B.length) (h2 : ∀ i, i < A.length → A.getD i 0 = B.getD i 0) : A = B := by
  refine List.ext_getElem h fun i h1 h3 => ?_
  have := h2 i h1
  simp only [List.getD, List.getElem?_eq_getElem h1, List.getElem?_eq_getElem h3, Option.getD_some] at this
  exact this
theorem IsInv.uniq {M' : List Int} (hL : Ok L) (h : IsInv L M) (h' : IsInv L M') : M = M' := by
  refine list_ext (by rw [h.1, h'.1]) fun x hx => ?_
  obtain ⟨i, hi, rfl⟩ := surj hL (x := x) (by rw [← h.1]; exact hx)
  rw [h.2 i hi, h'.2 i hi]
theorem IsInv.nxt_nxt (h : IsInv L M) {i : Nat} (hi : i < L.length) : nxt M (nxt L i) = i := by
  show (M.getD (nxt L i) 0 - 1).toNat = i
  rw [h.2 i hi]; omega
theorem IsInv.ok (hL : Ok L) (h : IsInv L M) : Ok M where
  rng x hx := by
    obtain ⟨i, hi, rfl⟩ := surj hL (x := x) (by rw [← h.1]; exact hx)
    rw [h.2 i hi, h.1]; omega
  inj a b hba ha e := by
    obtain ⟨i, hi, rfl⟩ := surj hL (x := a) (by rw [← h.1]; exact ha)
    obtain ⟨j, hj, rfl⟩ := surj hL (x := b) (by rw [← h.1]; omega)
    rw [h.2 i hi, h.2 j hj] at e
    have : i = j := by omega
    subst this
    omega
theorem IsInv.symm (hL : Ok L) (h : IsInv L M) : IsInv M L := ⟨h.1.symm, fun x hx => by
  obtain ⟨i, hi, rfl⟩ := surj hL (x := x) (by rw [← h.1]; exact hx)
  rw [h.nxt_nxt hi, (hL.nxt_lt hi).2]⟩
theorem ord_of (h : Ok L) (hl : L.length ≤ 12) : IsOrd L := ⟨hl, fun i hi => ⟨h.rng i hi, fun k hk => h.inj i k hk hi⟩⟩
theorem IsInv.ord (hL : IsOrd L) (h : IsInv L M) : IsOrd M := ord_of (h.ok hL.ok) (by rw [h.1]; exact hL.1)
theorem cntB_sm {i : Nat} : ∀ {n : Nat}, cntB L i n = sm (fun j => if i < j ∧ L.getD j 0 < L.getD i 0 then 1 else 0) n
  | 0 => rfl
  | n + 1 => by simp only [cntB, sm]; rw [cntB_sm]
theorem invs_sm : ∀ {k : Nat}, invs L k = sm (fun i => sm (fun j => if i < j ∧ L.getD j 0 < L.getD i 0 then 1 else 0) L.length) k
  | 0 => rfl
  | k + 1 => by simp only [invs, sm]; rw [invs_sm, cntB_sm]
theorem okp1 (hL : Ok L) : ∀ j, j < L.length → nxt L j < L.length := fun _ hj => (hL.nxt_lt hj).1
theorem okp2 (hL : Ok L) : ∀ a b, a < b → b < L.length → nxt L a ≠ nxt L b := fun a b hab hb e => by have := hL.nxt_inj (by omega) hb e; omega
theorem IsInv.invs (hL : Ok L) (h : IsInv L M) : invs M M.length = invs L L.length := by
  rw [invs_sm, invs_sm, h.1]
  rw [← sm_perm (p := nxt L) (okp1 hL) (okp2 hL)]
  rw [sm_congr (g := fun i => sm (fun j => if j < i ∧ L.getD i 0 < L.getD j 0 then 1 else 0) L.length) fun i hi => ?_]
  · rw [sm_swap]
  · rw [← sm_perm (p := nxt L) (okp1 hL) (okp2 hL)]
    refine sm_congr fun j hj => ?_
    have h1 := h.2 i hi
    have h2 := h.2 j hj
    have h3 := (hL.nxt_lt hi).2
    have h4 := (hL.nxt_lt hj).2
    rw [h1, h2]
    by_cases c : j < i ∧ L.getD i 0 < L.getD j 0
    · rw [if_pos c, if_pos (by omega)]
    · rw [if_neg c, if_neg (by omega)]
/-- Every way comes back. -/
theorem back (hL : Ok L) {i : Nat} (hi : i < L.length) : ∃ m, it L i (m + 1) = i ∧ ∀ j, 1 ≤ j → j ≤ m → it L i j ≠ i := by
  have hex : ∃ m, it L i (m + 1) = i := by
    apply Classical.byContradiction
    intro hne
    have := hL.it_len hi (m := L.length) fun j h1 _ e => hne ⟨j - 1, by rw [show j - 1 + 1 = j by omega]; exact e⟩
    omega
  obtain ⟨m, hm⟩ := hex
  have : ∀ k, it L i (k + 1) = i → ∃ m, it L i (m + 1) = i ∧ ∀ j, 1 ≤ j → j ≤ m → it L i j ≠ i := by
    intro k
    induction k using Nat.strongRecOn with
    | _ k ih =>
      intro hk
      by_cases hc : ∀ j, 1 ≤ j → j ≤ k → it L i j ≠ i
      · exact ⟨k, hk, hc⟩
      · have : ∃ j, 1 ≤ j ∧ j ≤ k ∧ it L i j = i := by
          apply Classical.byContradiction
          intro hn
          exact hc fun j h1 h2 h3 => hn ⟨j, h1, h2, h3⟩
        obtain ⟨j, h1, h2, h3⟩ := this
        exact ih (j - 1) (by omega) (by rw [show j - 1 + 1 = j by omega]; exact h3)
  exact this m hm
theorem it_add {i a : Nat} : ∀ {b : Nat}, it L i (a + b) = it L (it L i a) b
  | 0 => rfl
  | b + 1 => by show nxt L (it L i (a + b)) = nxt L _; rw [it_add]
theorem it_per {i p : Nat} (h : it L i p = i) : ∀ {q : Nat}, it L i (p * q) = i
  | 0 => rfl
  | q + 1 => by rw [Nat.mul_succ, it_add, it_per h, h]
/-- A place is on top exactly if no place on its way is beyond it. -/
theorem top_iff (hL : Ok L) {i : Nat} (hi : i < L.length) : top L i ↔ ∀ m, it L i m ≤ i := by
  obtain ⟨m, hm, hne⟩ := back hL hi
  rw [top_of hL hi hne hm]
  constructor
  · intro h k
    have : it L i k = it L i (k % (m + 1)) := by
      conv => lhs; rw [← Nat.div_add_mod k (m + 1)]
      rw [it_add, it_per hm]
    rw [this]
    have hlt := Nat.mod_lt k (show m + 1 > 0 by omega)
    by_cases h0 : k % (m + 1) = 0
    · rw [h0]; exact Nat.le_refl _
    · exact Nat.le_of_lt (h _ (by omega) (by omega))
  · intro h j h1 h2
    have := h j
    have := hne j h1 h2
    omega
theorem IsInv.it_back (hL : Ok L) (h : IsInv L M) {i : Nat} (hi : i < L.length) : ∀ {b a : Nat}, it M (it L i (a + b)) b = it L i a
  | 0, a => rfl
  | b + 1, a => by
    show nxt M (it M (it L i (a + (b + 1))) b) = _
    rw [show a + (b + 1) = (a + 1) + b by omega, IsInv.it_back hL h hi (b := b) (a := a + 1)]
    show nxt M (nxt L (it L i a)) = _
    rw [h.nxt_nxt (hL.it_lt hi a)]
theorem IsInv.top_of (hL : Ok L) (h : IsInv L M) {i : Nat} (hi : i < L.length) (ht : top L i) : top M i := by
  have h1 := (top_iff hL hi).1 ht
  rw [top_iff (h.ok hL) (by rw [h.1]; exact hi)]
  intro b
  obtain ⟨m, hm, _⟩ := back hL hi
  have h2 := it_per hm (q := b)
  have h3 := IsInv.it_back hL h hi (b := b) (a := (m + 1) * b - b)
  have h4 : b ≤ (m + 1) * b := Nat.le_mul_of_pos_left _ (by omega)
  rw [show (m + 1) * b - b + b = (m + 1) * b by omega, h2] at h3
  rw [h3]
  exact h1 _
theorem IsInv.top_iff (hL : Ok L) (h : IsInv L M) {i : Nat} (hi : i < L.length) : top M i ↔ top L i :=
  ⟨fun ht => IsInv.top_of (h.ok hL) (h.symm hL) (by rw [h.1]; exact hi) ht, h.top_of hL hi⟩
theorem cycs_len_congr : ∀ {n : Nat}, (∀ i, i < n → (top M i ↔ top L i)) → (cycs M n).length = (cycs L n).length
  | 0, _ => rfl
  | n + 1, h => by
    have h1 := h n (by omega)
    simp only [cycs, List.length_append]
    rw [cycs_len_congr fun i hi => h i (by omega)]
    by_cases c : top L n
    · rw [if_pos c, if_pos (h1.2 c)]; rfl
    · rw [if_neg c, if_neg fun e => c (h1.1 e)]
theorem IsInv.cycs (hL : Ok L) (h : IsInv L M) : (cycs M M.length).length = (cycs L L.length).length := by
  rw [h.1]
  exact cycs_len_congr fun i hi => h.top_iff hL hi
end
end PO
end Od
end Go.Proofs.YtocgehoffdjijaaGreat
/- Plain law: the rows that arise step by step, as functions of a place. No program in sight. -/
namespace Go.Proofs.YtocgehoffdjijaaGreat
namespace Od
set_option maxRecDepth 20000
/-- A number of a row, or 0. -/
def atL (L : List Int) (k : Int) : Int := if 0 ≤ k ∧ k < L.length then L.getD k.toNat 0 else 0
/-- The sum of the numbers at k, k - 1, .. k - j + 1. -/
def winS (L : List Int) (k : Int) : Nat → Int
  | 0 => 0
  | j + 1 => winS L k j + atL L (k - j)
/-- The rows that arise step by step. -/
def nextRow (S : List Int → Nat → Nat → Int) (row : List Int) (m : Nat) : List Int := (List.range (m * m + 1)).map fun j => S row m j
def rowS (S : List Int → Nat → Nat → Int) : Nat → List Int
  | 0 => [1]
  | m + 1 => nextRow S (rowS S m) (m + 1)
theorem rowS_len {S : List Int → Nat → Nat → Int} : ∀ {m : Nat}, (rowS S m).length = m * m + 1
  | 0 => rfl
  | m + 1 => by simp [rowS, nextRow]
namespace RW
def SI (row : List Int) (m k : Nat) : Int := winS row k m
def SD (row : List Int) (m k : Nat) : Int := if m = 1 then atL row k else ((k : Int) + 1) * atL row k + ((m : Int) - k) * atL row ((k : Int) - 1)
def SC (row : List Int) (m k : Nat) : Int := ((m : Int) - 1) * atL row k + atL row ((k : Int) - 1)
def wsum (f : Int → Int) (k : Int) : Nat → Int
  | 0 => 0
  | j + 1 => wsum f k j + f (k - j)
def fI : Nat → Int → Int
  | 0, k => if k = 0 then 1 else 0
  | m + 1, k => wsum (fI m) k (m + 1)
def fD : Nat → Int → Int
  | 0, k => if k = 0 then 1 else 0
  | m + 1, k => if m = 0 then fD m k else (k + 1) * fD m k + ((m : Int) + 1 - k) * fD m (k - 1)
def fC : Nat → Int → Int
  | 0, k => if k = 0 then 1 else 0
  | m + 1, k => m * fC m k + fC m (k - 1)
def fac : Nat → Nat
  | 0 => 1
  | n + 1 => (n + 1) * fac n
theorem fac_pos : ∀ n, 0 < fac n
  | 0 => by decide
  | n + 1 => Nat.mul_pos (by omega) (fac_pos n)
theorem fac_mono : ∀ {a b : Nat}, a ≤ b → fac a ≤ fac b := by
  intro a b h
  induction h with
  | refl => exact Nat.le_refl _
  | step _ ih => exact Nat.le_trans ih (Nat.le_mul_of_pos_left _ (by omega))
theorem wsum_zero {f : Int → Int} {k : Int} : ∀ {j : Nat}, (∀ i : Nat, i < j → f (k - i) = 0) → wsum f k j = 0
  | 0, _ => rfl
  | j + 1, h => by
    simp only [wsum]
    rw [wsum_zero fun i hi => h i (by omega), h j (by omega)]
    rfl
theorem wsum_nn {f : Int → Int} {k b : Int} (h : ∀ x, 0 ≤ f x ∧ f x ≤ b) : ∀ {j : Nat}, 0 ≤ wsum f k j ∧ wsum f k j ≤ j * b
  | 0 => by simp [wsum]
  | j + 1 => by
    have h1 := wsum_nn (k := k) h (j := j)
    have h2 := h (k - j)
    simp only [wsum]
    push_cast
    rw [Int.add_mul, Int.one_mul]
    omega
theorem fI_zero : ∀ {m : Nat} {k : Int}, (k < 0 ∨ (m : Int) * (m - 1) < 2 * k) → fI m k = 0
  | 0, k, h => by
    simp only [fI]
    rw [if_neg (by omega)]
  | m + 1, k, h => by
    refine wsum_zero fun i hi => fI_zero ?_
    rcases h with h | h
    · left; omega
    · right
      push_cast at h
      have e1 : ((m : Int) + 1) * (m + 1 - 1) = m * (m - 1) + 2 * m := by grind
      rw [e1] at h
      omega
theorem fD_zero : ∀ {m : Nat} {k : Int}, (k < 0 ∨ ((m : Int) ≤ k ∧ 1 ≤ k)) → fD m k = 0
  | 0, k, h => by
    simp only [fD]
    rw [if_neg (by omega)]
  | m + 1, k, h => by
    simp only [fD]
    by_cases hm : m = 0
    · rw [if_pos hm]
      exact fD_zero (by omega)
    · rw [if_neg hm, fD_zero (m := m) (k := k) (by omega), fD_zero (m := m) (k := k - 1) (by omega)]
      simp
theorem fC_zero : ∀ {m : Nat} {k : Int}, (k < 0 ∨ (m : Int) < k) → fC m k = 0
  | 0, k, h => by
    simp only [fC]
    rw [if_neg (by omega)]
  | m + 1, k, h => by
    simp only [fC]
    rw [fC_zero (m := m) (k := k) (by omega), fC_zero (m := m) (k := k - 1) (by omega)]
    simp
theorem fI_nn : ∀ {m : Nat} {k : Int}, 0 ≤ fI m k ∧ fI m k ≤ fac m
  | 0, k => by simp only [fI, fac]; split <;> decide
  | m + 1, k => by
    have := wsum_nn (f := fI m) (k := k) (b := fac m) (fun x => fI_nn) (j := m + 1)
    simp only [fI, fac]
    push_cast at *
    exact this
theorem fD_nn : ∀ {m : Nat} {k : Int}, 0 ≤ fD m k ∧ fD m k ≤ fac (m + 1)
  | 0, k => by simp only [fD, fac]; split <;> decide
  | m + 1, k => by
    have h1 := fD_nn (m := m) (k := k)
    have h2 := fD_nn (m := m) (k := k - 1)
    have hf : (fac (m + 1 + 1) : Int) = ((m : Int) + 2) * fac (m + 1) := by show (((m + 1 + 1) * fac (m + 1) : Nat) : Int) = _; push_cast; grind
    have hp : (0 : Int) < fac (m + 1) := by have := fac_pos (m + 1); omega
    by_cases hz : k < 0 ∨ ((m + 1 : Nat) : Int) ≤ k ∧ 1 ≤ k
    · rw [fD_zero hz, hf]
      exact ⟨Int.le_refl _, Int.mul_nonneg (by omega) (by omega)⟩
    · have e0 : 0 ≤ k ∧ k ≤ m := by omega
      simp only [fD]
      rw [hf]
      by_cases hm : m = 0
      · rw [if_pos hm]
        subst hm
        exact ⟨h1.1, by omega⟩
      · rw [if_neg hm]
        have a1 : 0 ≤ (k + 1) * fD m k := Int.mul_nonneg (by omega) h1.1
        have a2 : 0 ≤ ((m : Int) + 1 - k) * fD m (k - 1) := Int.mul_nonneg (by omega) h2.1
        have b1 : (k + 1) * fD m k ≤ (k + 1) * fac (m + 1) := Int.mul_le_mul_of_nonneg_left h1.2 (by omega)
        have b2 : ((m : Int) + 1 - k) * fD m (k - 1) ≤ ((m : Int) + 1 - k) * fac (m + 1) := Int.mul_le_mul_of_nonneg_left h2.2 (by omega)
        refine ⟨by omega, ?_⟩
        have : ((m : Int) + 2) * fac (m + 1) = (k + 1) * fac (m + 1) + ((m : Int) + 1 - k) * fac (m + 1) := by grind
        omega
theorem fC_nn : ∀ {m : Nat} {k : Int}, 0 ≤ fC m k ∧ fC m k ≤ fac m
  | 0, k => by simp only [fC, fac]; split <;> decide
  | m + 1, k => by
    have h1 := fC_nn (m := m) (k := k)
    have h2 := fC_nn (m := m) (k := k - 1)
    simp only [fC, fac]
    have a1 : 0 ≤ (m : Int) * fC m k := Int.mul_nonneg (by omega) h1.1
    have b1 : (m : Int) * fC m k ≤ m * fac m := Int.mul_le_mul_of_nonneg_left h1.2 (by omega)
    have : (((m + 1) * fac m : Nat) : Int) = m * fac m + fac m := by push_cast; grind
    omega
theorem atL_range {n : Nat} {g : Nat → Int} {k : Int} : atL ((List.range n).map g) k = if 0 ≤ k ∧ k < n then g k.toNat else 0 := by
  unfold atL
  simp only [List.length_map, List.length_range]
  by_cases h : 0 ≤ k ∧ k < n
  · rw [if_pos h, if_pos h]
    have : k.toNat < n := by omega
    simp [List.getD, this]
  · rw [if_neg h, if_neg h]
theorem atL_one {k : Int} : atL [1] k = if k = 0 then 1 else 0 := by
  unfold atL
  by_cases h : k = 0
  · subst h; rfl
  · rw [if_neg h, if_neg (by simp; omega)]
theorem winS_wsum {L : List Int} {f : Int → Int} (h : ∀ k, atL L k = f k) {k : Int} : ∀ {j : Nat}, winS L k j = wsum f k j
  | 0 => rfl
  | j + 1 => by simp only [winS, wsum]; rw [winS_wsum h, h]
theorem sq_two {m : Nat} {k : Int} (h : ((m + 1) * (m + 1) + 1 : Nat) ≤ k) : ((m + 1 : Nat) : Int) * ((m + 1 : Nat) - 1) < 2 * k := by
  have e : ((m + 1 : Nat) : Int) * ((m + 1 : Nat) - 1) = m * m + m := by push_cast; grind
  have e2 : (((m + 1) * (m + 1) + 1 : Nat) : Int) = m * m + 2 * m + 2 := by push_cast; grind
  have e3 : (0 : Int) ≤ m * m := Int.mul_nonneg (by omega) (by omega)
  omega
theorem rowI : ∀ {m : Nat} {k : Int}, atL (rowS SI m) k = fI m k
  | 0, k => by simp only [rowS, fI, atL_one]
  | m + 1, k => by
    simp only [rowS, nextRow]
    rw [atL_range]
    by_cases h : 0 ≤ k ∧ k < ((m + 1) * (m + 1) + 1 : Nat)
    · rw [if_pos h]
      show winS (rowS SI m) (k.toNat : Nat) (m + 1) = _
      rw [winS_wsum (f := fI m) fun k => rowI, show ((k.toNat : Nat) : Int) = k by omega]
      rfl
    · rw [if_neg h, fI_zero]
      by_cases h0 : k < 0
      · exact .inl h0
      · exact .inr (sq_two (by omega))
theorem m_sq {m : Nat} : m + 1 ≤ (m + 1) * (m + 1) := Nat.le_mul_of_pos_left _ (by omega)
theorem rowD : ∀ {m : Nat} {k : Int}, atL (rowS SD m) k = fD m k
  | 0, k => by simp only [rowS, fD, atL_one]
  | m + 1, k => by
    simp only [rowS, nextRow]
    rw [atL_range]
    by_cases h : 0 ≤ k ∧ k < ((m + 1) * (m + 1) + 1 : Nat)
    · rw [if_pos h]
      show (if m + 1 = 1 then atL (rowS SD m) (k.toNat : Nat) else (((k.toNat : Nat) : Int) + 1) * atL (rowS SD m) (k.toNat : Nat) + (((m + 1 : Nat) : Int) - (k.toNat : Nat)) * atL (rowS SD m) (((k.toNat : Nat) : Int) - 1)) = _
      rw [show ((k.toNat : Nat) : Int) = k by omega, rowD, rowD]
      simp only [fD]
      by_cases hm : m = 0
      · rw [if_pos (by omega), if_pos hm]
      · rw [if_neg (by omega), if_neg hm]
        push_cast
        rfl
    · have := m_sq (m := m)
      rw [if_neg h, fD_zero (by omega)]
theorem rowC : ∀ {m : Nat} {k : Int}, atL (rowS SC m) k = fC m k
  | 0, k => by simp only [rowS, fC, atL_one]
  | m + 1, k => by
    simp only [rowS, nextRow]
    rw [atL_range]
    by_cases h : 0 ≤ k ∧ k < ((m + 1) * (m + 1) + 1 : Nat)
    · rw [if_pos h]
      show (((m + 1 : Nat) : Int) - 1) * atL (rowS SC m) (k.toNat : Nat) + atL (rowS SC m) (((k.toNat : Nat) : Int) - 1) = _
      rw [show ((k.toNat : Nat) : Int) = k by omega, rowC, rowC]
      simp only [fC]
      push_cast
      rw [show (m : Int) + 1 - 1 = m by omega]
    · have := m_sq (m := m)
      rw [if_neg h, fC_zero (by omega)]
/-- The sum of the first numbers. -/
def sumT (f : Int → Int) : Nat → Int
  | 0 => 0
  | n + 1 => sumT f n + f n
theorem sumT_congr {f g : Int → Int} : ∀ {n : Nat}, (∀ i : Nat, i < n → f i = g i) → sumT f n = sumT g n
  | 0, _ => rfl
  | n + 1, h => by simp only [sumT]; rw [sumT_congr fun i hi => h i (by omega), h n (by omega)]
theorem sumT_add {f g : Int → Int} : ∀ {n : Nat}, sumT (fun k => f k + g k) n = sumT f n + sumT g n
  | 0 => rfl
  | n + 1 => by simp only [sumT]; rw [sumT_add]; omega
theorem sumT_mul {f : Int → Int} {c : Int} : ∀ {n : Nat}, sumT (fun k => c * f k) n = c * sumT f n
  | 0 => by simp [sumT]
  | n + 1 => by simp only [sumT]; rw [sumT_mul]; grind
theorem sumT_tail {f : Int → Int} {n : Nat} : ∀ {d : Nat}, (∀ i : Nat, n ≤ i → f i = 0) → sumT f (n + d) = sumT f n
  | 0, _ => rfl
  | d + 1, h => by
    show sumT f (n + d) + f ((n + d : Nat) : Int) = _
    rw [sumT_tail h, h (n + d) (by omega)]; omega
theorem sumT_shift1 {f : Int → Int} (h : f (-1) = 0) : ∀ {n : Nat}, sumT (fun k => f (k - 1)) (n + 1) = sumT f n
  | 0 => by simp [sumT, h]
  | n + 1 => by
    show sumT (fun k => f (k - 1)) (n + 1) + f (((n + 1 : Nat) : Int) - 1) = _
    rw [sumT_shift1 h, show ((n + 1 : Nat) : Int) - 1 = n by omega]; rfl
theorem sumT_shift {f : Int → Int} (h : ∀ k, k < 0 → f k = 0) {n : Nat} : ∀ {j : Nat}, sumT (fun k => f (k - j)) (n + j) = sumT f n
  | 0 => sumT_congr fun i _ => by simp
  | j + 1 => by
    have := sumT_shift1 (f := fun k => f (k - j)) (h _ (by omega)) (n := n + j)
    rw [show n + (j + 1) = n + j + 1 by omega, sumT_congr (g := fun k => f (k - 1 - j)) fun i _ => by congr 1; omega, this, sumT_shift h]
theorem sumT_wsum {f : Int → Int} (h : ∀ k, k < 0 → f k = 0) {n : Nat} (hn : ∀ i : Nat, n ≤ i → f i = 0) : ∀ {j : Nat}, sumT (fun k => wsum f k j) (n + j) = j * sumT f n
  | 0 => by
    rw [sumT_congr (g := fun _ => 0 * 0) fun i _ => by simp [wsum], sumT_mul (f := fun _ => 0)]; simp
  | j + 1 => by
    have e1 : sumT (fun k => wsum f k j) (n + j + 1) = sumT (fun k => wsum f k j) (n + j) :=
      sumT_tail (d := 1) fun i hi => wsum_zero fun a ha => by
        have := hn (i - a) (by omega)
        rw [← this]; congr 1; omega
    have e2 : sumT (fun k => f (k - j)) (n + j + 1) = sumT (fun k => f (k - j)) (n + j) := by
      refine sumT_tail (d := 1) fun i hi => ?_
      have := hn (i - j) (by omega)
      rw [← this]; congr 1; omega
    show sumT (fun k => wsum f k j + f (k - j)) (n + j + 1) = _
    rw [sumT_add, e1, e2, sumT_wsum h hn, sumT_shift h]
    push_cast; grind
/-- The greatest number of inversions. -/
def mst : Nat → Nat
  | 0 => 0
  | n + 1 => mst n + n
theorem mst_eq : ∀ {n : Nat}, (2 * mst n : Int) = n * (n - 1)
  | 0 => rfl
  | n + 1 => by
    have := mst_eq (n := n)
    simp only [mst]
    push_cast at *
    grind
theorem fI_sum : ∀ {m : Nat}, sumT (fI m) (mst m + 1) = fac m
  | 0 => by decide
  | m + 1 => by
    have := sumT_wsum (f := fI m) (fun k hk => fI_zero (.inl hk)) (n := mst m + 1) (fun i hi => fI_zero (.inr (by have := mst_eq (n := m); omega))) (j := m + 1)
    rw [fI_sum] at this
    have e : sumT (fI (m + 1)) (mst (m + 1) + 1 + 1) = sumT (fI (m + 1)) (mst (m + 1) + 1) := sumT_tail (d := 1) fun i hi => fI_zero (.inr (by have := mst_eq (n := m + 1); omega))
    rw [← e, show mst (m + 1) + 1 + 1 = mst m + 1 + (m + 1) by simp only [mst]; omega]
    refine Eq.trans this ?_
    simp only [fac]; push_cast; rfl
theorem fI_tot {m n : Nat} (h : mst m < n) : sumT (fI m) n = fac m := by
  have : sumT (fI m) (mst m + 1 + (n - (mst m + 1))) = sumT (fI m) (mst m + 1) := sumT_tail fun i hi => fI_zero (.inr (by have := mst_eq (n := m); omega))
  rw [show mst m + 1 + (n - (mst m + 1)) = n by omega] at this
  rw [this, fI_sum]
theorem fC_sum : ∀ {m : Nat}, sumT (fC m) (m + 1) = fac m
  | 0 => by decide
  | m + 1 => by
    have h1 : sumT (fun k => fC m (k - 1)) (m + 1 + 1) = sumT (fC m) (m + 1) := sumT_shift1 (fC_zero (.inl (by omega)))
    have h2 : sumT (fun k => fC m k) (m + 1 + 1) = sumT (fC m) (m + 1) := sumT_tail (d := 1) fun i hi => fC_zero (.inr (by omega))
    show sumT (fun k => (m : Int) * fC m k + fC m (k - 1)) (m + 1 + 1) = _
    rw [sumT_add, sumT_mul (f := fun k => fC m k), h1, h2, fC_sum]
    simp only [fac]; push_cast; grind
theorem fC_tot {m n : Nat} (h : m < n) : sumT (fC m) n = fac m := by
  have : sumT (fC m) (m + 1 + (n - (m + 1))) = sumT (fC m) (m + 1) := sumT_tail fun i hi => fC_zero (.inr (by omega))
  rw [show m + 1 + (n - (m + 1)) = n by omega] at this
  rw [this, fC_sum]
theorem fD_sum : ∀ {m : Nat}, sumT (fD (m + 1)) (m + 1) = fac (m + 1)
  | 0 => by decide
  | m + 1 => by
    have h1 : sumT (fun k => ((m : Int) + 1 - k) * fD (m + 1) k) (m + 1) + sumT (fun k => (k + 1) * fD (m + 1) k) (m + 1) = (m + 2) * sumT (fD (m + 1)) (m + 1) := by
      rw [← sumT_add, ← sumT_mul]
      exact sumT_congr fun i _ => by grind
    have h2 : sumT (fun k => ((m : Int) + 1 + 1 - k) * fD (m + 1) (k - 1)) (m + 1 + 1) = sumT (fun k => ((m : Int) + 1 - k) * fD (m + 1) k) (m + 1) := by
      rw [← sumT_shift1 (f := fun k => ((m : Int) + 1 - k) * fD (m + 1) k) (by rw [fD_zero (.inl (by omega))]; simp)]
      exact sumT_congr fun i _ => by congr 1; omega
    have h3 : sumT (fun k => (k + 1) * fD (m + 1) k) (m + 1 + 1) = sumT (fun k => (k + 1) * fD (m + 1) k) (m + 1) := sumT_tail (d := 1) fun i hi => by rw [fD_zero (.inr (by omega))]; simp
    have h4 : sumT (fD (m + 1 + 1)) (m + 1 + 1) = sumT (fun k => (k + 1) * fD (m + 1) k + ((m : Int) + 1 + 1 - k) * fD (m + 1) (k - 1)) (m + 1 + 1) := sumT_congr fun i _ => by
      show (if m + 1 = 0 then fD (m + 1) i else ((i : Int) + 1) * fD (m + 1) i + (((m + 1 : Nat) : Int) + 1 - i) * fD (m + 1) (i - 1)) = _
      rw [if_neg (by omega)]; push_cast; rfl
    rw [h4, sumT_add, h2, h3, Int.add_comm, h1, fD_sum]
    show _ = (((m + 1 + 1) * fac (m + 1) : Nat) : Int)
    push_cast; grind
theorem fD_tot {m n : Nat} (h : m < n) (h0 : 0 < m) : sumT (fD m) n = fac m := by
  obtain ⟨p, rfl⟩ : ∃ p, m = p + 1 := ⟨m - 1, by omega⟩
  have : sumT (fD (p + 1)) (p + 1 + (n - (p + 1))) = sumT (fD (p + 1)) (p + 1) := sumT_tail fun i hi => fD_zero (.inr (by omega))
  rw [show p + 1 + (n - (p + 1)) = n by omega] at this
  rw [this, fD_sum]
theorem fD_tot' {m n : Nat} (h : m ≤ n) (h0 : 0 < m) : sumT (fD m) n = fac m := by
  obtain ⟨p, rfl⟩ : ∃ p, m = p + 1 := ⟨m - 1, by omega⟩
  have : sumT (fD (p + 1)) (p + 1 + (n - (p + 1))) = sumT (fD (p + 1)) (p + 1) := sumT_tail fun i hi => fD_zero (.inr (by omega))
  rw [show p + 1 + (n - (p + 1)) = n by omega] at this
  rw [this, fD_sum]
theorem sumT_mono {f : Int → Int} (h : ∀ k, 0 ≤ f k) {n : Nat} : ∀ {d : Nat}, sumT f n ≤ sumT f (n + d)
  | 0 => Int.le_refl _
  | d + 1 => by
    have := sumT_mono h (n := n) (d := d)
    have := h ((n + d : Nat) : Int)
    show _ ≤ sumT f (n + d) + f ((n + d : Nat) : Int)
    omega
theorem sumT_nn {f : Int → Int} (h : ∀ k, 0 ≤ f k) : ∀ {n : Nat}, 0 ≤ sumT f n
  | 0 => Int.le_refl _
  | n + 1 => by
    have := sumT_nn h (n := n)
    have := h (n : Int)
    show 0 ≤ sumT f n + f n
    omega
theorem fI_le {m n : Nat} : 0 ≤ sumT (fI m) n ∧ sumT (fI m) n ≤ fac m := by
  refine ⟨sumT_nn fun k => fI_nn.1, ?_⟩
  rw [← fI_tot (m := m) (n := n + (mst m + 1)) (by omega)]
  exact sumT_mono fun k => fI_nn.1
theorem fD_le {m n : Nat} (h : 0 < m) : 0 ≤ sumT (fD m) n ∧ sumT (fD m) n ≤ fac m := by
  refine ⟨sumT_nn fun k => fD_nn.1, ?_⟩
  rw [← fD_tot' (m := m) (n := n + m) (by omega) h]
  exact sumT_mono fun k => fD_nn.1
theorem fC_le {m n : Nat} : 0 ≤ sumT (fC m) n ∧ sumT (fC m) n ≤ fac m := by
  refine ⟨sumT_nn fun k => fC_nn.1, ?_⟩
  rw [← fC_tot (m := m) (n := n + (m + 1)) (by omega)]
  exact sumT_mono fun k => fC_nn.1
theorem mst_quo {n : Nat} : ((n : Int) * (n - 1)) / 2 = mst n := by
  have := mst_eq (n := n)
  omega
theorem mst_le {a b : Nat} (h : a ≤ b) : mst a ≤ mst b := by
  induction h with
  | refl => exact Nat.le_refl _
  | step _ ih => simp only [mst]; omega
theorem mst_big : ∀ {n : Nat}, 3 ≤ n → n ≤ mst n
  | 3, _ => by decide
  | n + 4, _ => by
    have := mst_big (n := n + 3) (by omega)
    simp only [mst] at *
    omega
theorem wsum_front {f : Int → Int} {k : Int} : ∀ {j : Nat}, wsum f k (j + 1) = f k + wsum f (k - 1) j
  | 0 => by simp [wsum]
  | j + 1 => by
    show wsum f k (j + 1) + f (k - ((j + 1 : Nat) : Int)) = f k + (wsum f (k - 1) j + f (k - 1 - j))
    rw [wsum_front, show k - ((j + 1 : Nat) : Int) = k - 1 - j by omega]; omega
theorem wsum_rev {f g : Int → Int} {a b : Int} : ∀ {j : Nat}, (∀ i : Nat, i < j → f (a - i) = g (b - (j - 1 - i : Int))) → wsum f a j = wsum g b j
  | 0, _ => rfl
  | j + 1, h => by
    rw [wsum_front (f := g)]
    show wsum f a j + f (a - j) = _
    have h1 := h j (by omega)
    rw [h1, wsum_rev (f := f) (g := g) (a := a) (b := b - 1) fun i hi => by rw [h i (by omega)]; congr 1; push_cast; omega]
    rw [show b - (((j + 1 : Nat) : Int) - 1 - (j : Int)) = b by omega]; omega
theorem fI_sym : ∀ {m : Nat} {k : Int}, fI m (mst m - k) = fI m k
  | 0, k => by simp only [fI, mst]; simp
  | m + 1, k => by
    refine wsum_rev fun i hi => ?_
    rw [← fI_sym (m := m)]
    congr 1
    simp only [mst]; push_cast; omega
theorem fD_sym : ∀ {m : Nat} {k : Int}, fD (m + 1) (m - k) = fD (m + 1) k
  | 0, k => by simp only [fD]; simp
  | m + 1, k => by
    show (if m + 1 = 0 then _ else (((m + 1 : Nat) : Int) - k + 1) * fD (m + 1) (((m + 1 : Nat) : Int) - k) + (((m + 1 : Nat) : Int) + 1 - (((m + 1 : Nat) : Int) - k)) * fD (m + 1) (((m + 1 : Nat) : Int) - k - 1)) = (if m + 1 = 0 then _ else (k + 1) * fD (m + 1) k + (((m + 1 : Nat) : Int) + 1 - k) * fD (m + 1) (k - 1))
    rw [if_neg (by omega), if_neg (by omega)]
    have h1 := fD_sym (m := m) (k := k)
    have h2 := fD_sym (m := m) (k := k - 1)
    rw [show ((m + 1 : Nat) : Int) - k - 1 = m - k by omega, h1, show ((m + 1 : Nat) : Int) - k = m - (k - 1) by omega, h2]
    push_cast
    grind
end RW
end Od
end Go.Proofs.YtocgehoffdjijaaGreat
/- Plain: the table of an order; its number. No program in sight. -/
namespace Go.Proofs.YtocgehoffdjijaaGreat
namespace Od
set_option maxRecDepth 20000
open CY PO RW
/-- The table: how many smaller numbers stand after each one; of the first k numbers. -/
def tbK (L : List Int) : Nat → List Int
  | 0 => []
  | k + 1 => tbK L k ++ [cntB L k L.length]
def tbl (L : List Int) : List Int := tbK L L.length
theorem tbK_len {L : List Int} : ∀ {k : Nat}, (tbK L k).length = k
  | 0 => rfl
  | k + 1 => by simp [tbK, tbK_len]
theorem tbl_len {L : List Int} : (tbl L).length = L.length := tbK_len
theorem snoc_at {A : List Int} {x : Int} {i : Nat} : (A ++ [x]).getD i 0 = if i < A.length then A.getD i 0 else if i = A.length then x else 0 := by
  simp only [List.getD]
  by_cases h : i < A.length
  · rw [if_pos h, List.getElem?_append_left h]
  · rw [if_neg h, List.getElem?_append_right (by omega)]
    by_cases e : i = A.length
    · subst e; simp
    · rw [if_neg e, List.getElem?_eq_none (by simp; omega)]; rfl
theorem tbK_at {L : List Int} : ∀ {k i : Nat}, i < k → (tbK L k).getD i 0 = cntB L i L.length
  | k + 1, i, h => by
    simp only [tbK]
    rw [snoc_at, tbK_len]
    by_cases e : i < k
    · rw [if_pos e, tbK_at e]
    · have : i = k := by omega
      subst this
      simp
theorem tbl_at {L : List Int} {i : Nat} (h : i < L.length) : (tbl L).getD i 0 = cntB L i L.length := tbK_at h
theorem take_tbl {L R : List Int} (hl : L.length ≤ R.length) (h : ∀ i, i < L.length → R.getD i 0 = cntB L i L.length) : R.take L.length = tbl L := by
  refine list_ext (by rw [tbl_len]; simp; omega) fun i hi => ?_
  have hi' : i < L.length := by simp at hi; omega
  rw [tbl_at hi', ← h i hi']
  simp [List.getD, hi']
/-- The number of orders before an order. -/
def idxK (L : List Int) : Nat → Int
  | 0 => 0
  | k + 1 => idxK L k + cntB L k L.length * fac (L.length - 1 - k)
theorem cnt_lt {L : List Int} {i : Nat} : ∀ {n : Nat}, i < n → cntB L i n ≤ n - 1 - i
  | n + 1, h => by
    simp only [cntB]
    by_cases e : i = n
    · subst e
      rw [cntB_zero (Nat.le_refl _), if_neg (by omega)]; omega
    · have := cnt_lt (L := L) (i := i) (n := n) (by omega)
      split <;> omega
theorem idxK_bnd {L : List Int} : ∀ {k : Nat}, k ≤ L.length → 0 ≤ idxK L k ∧ idxK L k + fac (L.length - k) ≤ fac L.length
  | 0, _ => by simp [idxK]
  | k + 1, h => by
    have ih := idxK_bnd (L := L) (k := k) (by omega)
    have h0 := (cntB_bnd (L := L) (i := k) (n := L.length)).1
    have h1 := cnt_lt (L := L) (i := k) (n := L.length) (by omega)
    simp only [idxK]
    have hf : L.length - k = (L.length - 1 - k) + 1 := by omega
    have e2 : L.length - (k + 1) = L.length - 1 - k := by omega
    rw [e2]
    rw [hf] at ih
    have hfe : (fac (L.length - 1 - k + 1) : Int) = ((L.length - 1 - k : Nat) + 1 : Int) * fac (L.length - 1 - k) := by
      show (((L.length - 1 - k + 1) * fac (L.length - 1 - k) : Nat) : Int) = _
      push_cast; rfl
    rw [hfe] at ih
    have hp : (0 : Int) ≤ fac (L.length - 1 - k) := by omega
    have a1 : 0 ≤ cntB L k L.length * fac (L.length - 1 - k) := Int.mul_nonneg h0 hp
    have a2 : cntB L k L.length * fac (L.length - 1 - k) ≤ ((L.length - 1 - k : Nat) : Int) * fac (L.length - 1 - k) := Int.mul_le_mul_of_nonneg_right (by omega) hp
    rw [Int.add_mul, Int.one_mul] at ih
    omega
theorem invs_tbl {L : List Int} : ∀ {k : Nat}, k ≤ L.length → sumI ((tbl L).take k) = invs L k
  | 0, _ => rfl
  | k + 1, h => by
    rw [take_snocI (by rw [tbl_len]; omega), sumI_snoc, invs_tbl (by omega), tbl_at (by omega)]
    rfl
theorem sum_tbl {L : List Int} : sumI (tbl L) = invs L L.length := by
  rw [← invs_tbl (Nat.le_refl _), List.take_of_length_le (by rw [tbl_len]; omega)]
end Od
end Go.Proofs.YtocgehoffdjijaaGreat
/- Plain law: an order and its table; the order with a number. No program in sight. -/
namespace Go.Proofs.YtocgehoffdjijaaGreat
namespace Od
set_option maxRecDepth 20000
open CY PO RW
namespace MD
/-- How many numbers of a list are smaller. -/
def low (x : Int) (l : List Int) : Nat := l.countP fun y => decide (y < x)
/-- The table, from the front. -/
def tb : List Int → List Int
  | [] => []
  | x :: r => (low x r : Int) :: tb r
/-- The order with a table, out of what is left. -/
def mk : List Int → List Int → List Int
  | [], _ => []
  | a :: t, l => l.getD a.toNat 0 :: mk t (l.eraseIdx a.toNat)
def okT : List Int → Prop
  | [] => True
  | a :: t => (0 ≤ a ∧ a ≤ t.length) ∧ okT t
def iota (n : Nat) : List Int := (List.range n).map fun (i : Nat) => (i : Int) + 1
abbrev Asc (l : List Int) : Prop := l.Pairwise (· < ·)
theorem iota_len {n : Nat} : (iota n).length = n := by simp [iota]
theorem iota_asc {n : Nat} : Asc (iota n) := by
  unfold iota Asc
  rw [List.pairwise_map]
  exact List.pairwise_lt_range.imp fun h => by omega
theorem low_all {x : Int} {l : List Int} (h : ∀ y ∈ l, y < x) : low x l = l.length := by
  unfold low; rw [List.countP_eq_length]; intro y hy; simpa using h y hy
theorem low_none {x : Int} {l : List Int} (h : ∀ y ∈ l, x ≤ y) : low x l = 0 := by
  unfold low; rw [List.countP_eq_zero]; intro y hy; have := h y hy; simp; omega
theorem low_append {x : Int} {a b : List Int} : low x (a ++ b) = low x a + low x b := List.countP_append
theorem low_perm {x : Int} {a b : List Int} (h : a.Perm b) : low x a = low x b := h.countP_eq _
theorem asc_split {a b : List Int} {x : Int} (h : Asc (a ++ x :: b)) : (∀ y ∈ a, y < x) ∧ (∀ y ∈ b, x < y) ∧ Asc (a ++ b) := by
  rw [Asc, List.pairwise_append] at h
  obtain ⟨h1, h2, h3⟩ := h
  rw [List.pairwise_cons] at h2
  refine ⟨fun y hy => h3 y hy x (by simp), h2.1, ?_⟩
  rw [Asc, List.pairwise_append]
  exact ⟨h1, h2.2, fun p hp q hq => h3 p hp q (by simp [hq])⟩
theorem low_mid {a b : List Int} {x : Int} (h : Asc (a ++ x :: b)) : low x (a ++ b) = a.length := by
  obtain ⟨h1, h2, _⟩ := asc_split h
  rw [low_append, low_all h1, low_none fun y hy => Int.le_of_lt (h2 y hy)]; rfl
theorem getD_mid {a b : List Int} {x : Int} : (a ++ x :: b).getD a.length 0 = x := by simp [List.getD]
theorem erase_mid {a b : List Int} {x : Int} : (a ++ x :: b).eraseIdx a.length = a ++ b := by
  rw [List.eraseIdx_append_of_length_le (by omega)]; simp
theorem split_at {l : List Int} {k : Nat} (h : k < l.length) : l = l.take k ++ l.getD k 0 :: l.drop (k + 1) := by
  rw [show l.getD k 0 = l[k] by simp [List.getD, h]]
  simp
/-- A table that is one gives an order whose table it is. -/
theorem mk_tb : ∀ {t l : List Int}, okT t → Asc l → l.length = t.length → (mk t l).Perm l ∧ tb (mk t l) = t
  | [], l, _, _, hl => by
    have : l = [] := List.eq_nil_of_length_eq_zero hl
    subst this
    exact ⟨List.Perm.refl _, rfl⟩
  | a :: t, l, ⟨⟨h0, h1⟩, ht⟩, hs, hl => by
    simp only [List.length_cons] at hl
    have hk : a.toNat < l.length := by omega
    have hsp := split_at hk
    have hkl : (l.take a.toNat).length = a.toNat := by simp; omega
    generalize hA : l.take a.toNat = A at *
    generalize hB : l.drop (a.toNat + 1) = B at *
    generalize hx : l.getD a.toNat 0 = x at *
    have he : l.eraseIdx a.toNat = A ++ B := by rw [hsp, ← hkl, erase_mid]
    rw [hsp] at hs
    have hlow := low_mid hs
    obtain ⟨_, _, hAB⟩ := asc_split hs
    have hlen : (A ++ B).length = t.length := by
      have := congrArg List.length hsp
      simp only [List.length_append, List.length_cons] at this ⊢
      omega
    have ih := mk_tb ht hAB hlen
    simp only [mk]
    rw [hx, he]
    constructor
    · refine List.Perm.trans (ih.1.cons x) ?_
      rw [hsp]
      exact List.perm_middle.symm
    · simp only [tb]
      rw [low_perm ih.1, hlow, ih.2, hkl]
      congr 1; omega
/-- An order comes back out of its table. -/
theorem mk_of_tb : ∀ {L l : List Int}, Asc l → L.Perm l → mk (tb L) l = L ∧ okT (tb L)
  | [], l, _, _ => ⟨rfl, trivial⟩
  | x :: r, l, hs, hp => by
    have hx : x ∈ l := hp.subset (by simp)
    obtain ⟨A, B, rfl⟩ := List.append_of_mem hx
    have hlow := low_mid hs
    obtain ⟨_, _, hAB⟩ := asc_split hs
    have hr : r.Perm (A ++ B) := by
      have h2 := hp.trans List.perm_middle
      exact List.Perm.cons_inv h2
    have ih := mk_of_tb hAB hr
    have hl : low x r = A.length := by rw [low_perm hr, hlow]
    simp only [tb, mk]
    rw [hl, Int.toNat_natCast, getD_mid, erase_mid, ih.1]
    refine ⟨rfl, ⟨⟨by omega, ?_⟩, ih.2⟩⟩
    have h1 : (tb r).length = r.length := by
      have : ∀ l : List Int, (tb l).length = l.length := by
        intro l; induction l with
        | nil => rfl
        | cons y s ihs => simp [tb, ihs]
      exact this r
    rw [h1, hr.length_eq]
    simp; omega
theorem tb_len : ∀ {l : List Int}, (tb l).length = l.length
  | [] => rfl
  | y :: s => by simp [tb, tb_len]
theorem mk_len : ∀ {t l : List Int}, (mk t l).length = t.length
  | [], _ => rfl
  | a :: t, l => by simp [mk, mk_len]
/-- An order holds the numbers from 1 on. -/
theorem ok_perm {L : List Int} (h : Ok L) : L.Perm (iota L.length) := by
  have hn : L.Nodup := by
    rw [List.nodup_iff_pairwise_ne, List.pairwise_iff_getElem]
    intro i j hi hj hij e
    have := h.inj j i hij hj
    simp only [List.getD, List.getElem?_eq_getElem hi, List.getElem?_eq_getElem hj, Option.getD_some] at this
    exact this e
  have hn2 : (iota L.length).Nodup := by
    have := iota_asc (n := L.length)
    rw [List.nodup_iff_pairwise_ne]
    exact this.imp fun h => by omega
  refine (List.perm_ext_iff_of_nodup hn hn2).2 fun x => ?_
  constructor
  · intro hx
    obtain ⟨i, hi, rfl⟩ := List.getElem_of_mem hx
    have := h.rng i hi
    simp only [List.getD, List.getElem?_eq_getElem hi, Option.getD_some] at this
    unfold iota
    exact List.mem_map.2 ⟨(L[i] - 1).toNat, by simp; omega, by omega⟩
  · intro hx
    obtain ⟨i, hi, rfl⟩ := List.mem_map.1 hx
    simp at hi
    obtain ⟨j, hj, hji⟩ := surj h hi
    have := (h.nxt_lt hj).2
    rw [hji] at this
    rw [this]
    simp [List.getD, hj]
theorem perm_ok {L : List Int} (h : L.Perm (iota L.length)) : Ok L where
  rng i hi := by
    have h1 : L[i] ∈ iota L.length := h.subset (List.getElem_mem hi)
    obtain ⟨j, hj, hj2⟩ := List.mem_map.1 h1
    simp at hj
    simp only [List.getD, List.getElem?_eq_getElem hi, Option.getD_some]
    omega
  inj i k hki hi e := by
    have hn2 : (iota L.length).Nodup := by
      have := iota_asc (n := L.length)
      rw [List.nodup_iff_pairwise_ne]
      exact this.imp fun h => by omega
    have hn : L.Nodup := h.nodup_iff.2 hn2
    rw [List.nodup_iff_pairwise_ne, List.pairwise_iff_getElem] at hn
    have hk : k < L.length := by omega
    simp only [List.getD, List.getElem?_eq_getElem hi, List.getElem?_eq_getElem hk, Option.getD_some] at e
    exact hn k i hk hi hki e
theorem cntB_cons {x : Int} {r : List Int} {i : Nat} : ∀ {n : Nat}, cntB (x :: r) (i + 1) (n + 1) = cntB r i n
  | 0 => by simp [cntB]
  | n + 1 => by
    show cntB (x :: r) (i + 1) (n + 1) + _ = cntB r i n + _
    rw [cntB_cons]
    congr 1
    by_cases c : i < n ∧ r.getD n 0 < r.getD i 0
    · rw [if_pos c, if_pos ⟨by omega, by simpa [List.getD] using c.2⟩]
    · rw [if_neg c, if_neg]
      intro h
      exact c ⟨by omega, by simpa [List.getD] using h.2⟩
theorem cntB_head {x : Int} {r : List Int} : ∀ {n : Nat}, n ≤ r.length → cntB (x :: r) 0 (n + 1) = low x (r.take n)
  | 0, _ => by simp [cntB, low]
  | n + 1, h => by
    show cntB (x :: r) 0 (n + 1) + _ = _
    rw [cntB_head (by omega), take_snocI (by omega), low_append]
    have e : (x :: r).getD (n + 1) 0 = r.getD n 0 := by simp [List.getD]
    have e0 : (x :: r).getD 0 0 = x := rfl
    rw [e, e0]
    unfold low
    by_cases c : r.getD n 0 < x
    · rw [if_pos ⟨by omega, c⟩]; simp [-List.getD_eq_getElem?_getD, c]
    · rw [if_neg fun h => c h.2]; simp [-List.getD_eq_getElem?_getD, c]
theorem tbl_tb : ∀ {L : List Int}, tbl L = tb L
  | [] => rfl
  | x :: r => by
    have ih := tbl_tb (L := r)
    refine list_ext (by rw [tbl_len, tb_len]) fun i hi => ?_
    rw [tbl_len] at hi
    rw [tbl_at hi]
    cases i with
    | zero =>
      show cntB (x :: r) 0 (r.length + 1) = _
      rw [cntB_head (Nat.le_refl _), List.take_length]; rfl
    | succ i =>
      show cntB (x :: r) (i + 1) (r.length + 1) = (tb r).getD i 0
      rw [cntB_cons, ← ih, tbl_at (by simpa using hi)]
end MD
end Od
end Go.Proofs.YtocgehoffdjijaaGreat
/- Plain law: the order with a table, number by number; the order with a number. No program in sight. -/
namespace Go.Proofs.YtocgehoffdjijaaGreat
namespace Od
set_option maxRecDepth 20000
open CY PO RW
namespace MD
/-- What is left, and the order, after k numbers of the table. -/
def lft (t : List Int) : Nat → List Int
  | 0 => iota t.length
  | k + 1 => (lft t k).eraseIdx (t.getD k 0).toNat
def outK (t : List Int) : Nat → List Int
  | 0 => []
  | k + 1 => outK t k ++ [(lft t k).getD (t.getD k 0).toNat 0]
/-- The table's numbers before place k are ones. -/
def okK (t : List Int) (k : Nat) : Prop := ∀ i, i < k → 0 ≤ t.getD i 0 ∧ t.getD i 0 + i < t.length
instance (t : List Int) (k : Nat) : Decidable (okK t k) := by unfold okK; infer_instance
theorem lft_len {t : List Int} : ∀ {k : Nat}, k ≤ t.length → okK t k → (lft t k).length = t.length - k
  | 0, _, _ => by simp [lft, iota_len]
  | k + 1, hk, h => by
    have ih := lft_len (t := t) (k := k) (by omega) fun i hi => h i (by omega)
    have h1 := h k (by omega)
    simp only [lft]
    rw [List.length_eraseIdx_of_lt (by omega), ih]; omega
theorem outK_len {t : List Int} : ∀ {k : Nat}, (outK t k).length = k
  | 0 => rfl
  | k + 1 => by simp [outK, outK_len]
theorem okK_ok : ∀ {t : List Int}, okK t t.length → okT t
  | [], _ => trivial
  | a :: t, h => by
    refine ⟨?_, okK_ok fun i hi => ?_⟩
    · have := h 0 (by simp)
      simp at this
      omega
    · have := h (i + 1) (by simpa using hi)
      simp at this ⊢
      omega
theorem ok_okK : ∀ {t : List Int}, okT t → okK t t.length
  | [], _ => fun i hi => by simp at hi
  | a :: t, h => by
    intro i hi
    cases i with
    | zero => have := h.1; simp; omega
    | succ i =>
      have := ok_okK h.2 i (by simpa using hi)
      simp at this ⊢
      omega
theorem mk_out {t : List Int} : ∀ {d k : Nat}, k + d = t.length → outK t k ++ mk (t.drop k) (lft t k) = outK t t.length
  | 0, k, h => by
    have : k = t.length := by omega
    subst this
    rw [List.drop_of_length_le (Nat.le_refl _)]
    simp [mk]
  | d + 1, k, h => by
    have hk : k < t.length := by omega
    have e : t.drop k = t.getD k 0 :: t.drop (k + 1) := by
      rw [List.drop_eq_getElem_cons hk]; simp [List.getD, hk]
    rw [e]
    simp only [mk]
    rw [← mk_out (t := t) (d := d) (k := k + 1) (by omega)]
    simp only [outK, lft, List.append_assoc, List.singleton_append]
/-- The order with a table. -/
theorem made_eq {t : List Int} : outK t t.length = mk t (iota t.length) := by
  have := mk_out (t := t) (d := t.length) (k := 0) (by omega)
  simpa [outK, lft] using this.symm
theorem made_perm {t : List Int} (h : okK t t.length) : (outK t t.length).Perm (iota t.length) ∧ tbl (outK t t.length) = t := by
  rw [made_eq, tbl_tb]
  exact mk_tb (okK_ok h) iota_asc iota_len
theorem made_ord {t : List Int} (h : okK t t.length) (hl : t.length ≤ 12) : IsOrd (outK t t.length) := by
  refine ord_of (perm_ok ?_) (by rw [outK_len]; exact hl)
  rw [outK_len]
  exact (made_perm h).1
/-- An order is the one with its table. -/
theorem made_tbl {L : List Int} (h : Ok L) : okK (tbl L) L.length ∧ outK (tbl L) L.length = L := by
  have h1 := mk_of_tb (L := L) iota_asc (ok_perm h)
  rw [← tbl_tb] at h1
  have h2 := ok_okK h1.2
  have h3 := made_eq (t := tbl L)
  rw [tbl_len] at h2 h3
  exact ⟨h2, by rw [h3]; exact h1.1⟩
/-- The table of the order with number k. -/
def tk : Nat → Int → List Int
  | 0, _ => []
  | m + 1, k => k / fac m :: tk m (k % fac m)
theorem tk_len : ∀ {m : Nat} {k : Int}, (tk m k).length = m
  | 0, _ => rfl
  | m + 1, _ => by simp [tk, tk_len]
theorem fac_succ {m : Nat} : (fac (m + 1) : Int) = ((m : Int) + 1) * fac m := by
  show (((m + 1) * fac m : Nat) : Int) = _
  push_cast; rfl
theorem tk_ok : ∀ {m : Nat} {k : Int}, 0 ≤ k → k < fac m → okT (tk m k)
  | 0, _, _, _ => trivial
  | m + 1, k, h0, h1 => by
    have hp : (0 : Int) < fac m := by have := fac_pos m; omega
    rw [fac_succ] at h1
    refine ⟨⟨Int.ediv_nonneg h0 (by omega), ?_⟩, tk_ok (Int.emod_nonneg _ (by omega)) (Int.emod_lt_of_pos _ hp)⟩
    rw [tk_len]
    have := Int.ediv_lt_of_lt_mul hp h1
    omega
/-- The number of a table. -/
def val : List Int → Int
  | [] => 0
  | a :: t => a * fac t.length + val t
theorem val_bnd : ∀ {t : List Int}, okT t → 0 ≤ val t ∧ val t < fac t.length
  | [], _ => by simp [val, fac]
  | a :: t, ⟨⟨h0, h1⟩, h2⟩ => by
    have ih := val_bnd h2
    have hp : (0 : Int) < fac t.length := by have := fac_pos t.length; omega
    have a1 : 0 ≤ a * fac t.length := Int.mul_nonneg h0 (by omega)
    have a2 : a * fac t.length ≤ (t.length : Int) * fac t.length := Int.mul_le_mul_of_nonneg_right h1 (by omega)
    simp only [val, List.length_cons]
    rw [fac_succ, Int.add_mul, Int.one_mul]
    omega
theorem tk_val : ∀ {t : List Int}, okT t → tk t.length (val t) = t
  | [], _ => rfl
  | a :: t, ⟨_, h2⟩ => by
    have hb := val_bnd h2
    have hp : (0 : Int) < fac t.length := by have := fac_pos t.length; omega
    simp only [List.length_cons, tk, val]
    have e1 : (a * fac t.length + val t) / fac t.length = a := by
      rw [Int.add_comm, Int.add_mul_ediv_right _ _ (by omega), Int.ediv_eq_zero_of_lt hb.1 hb.2]; omega
    have e2 : (a * fac t.length + val t) % fac t.length = val t := by
      rw [Int.add_comm, Int.add_mul_emod_self_right, Int.emod_eq_of_lt hb.1 hb.2]
    rw [e1, e2, tk_val h2]
def rmK (n : Nat) (k : Int) : Nat → Int
  | 0 => k
  | m + 1 => rmK n k m % fac (n - 1 - m)
def tkK (n : Nat) (k : Int) : Nat → List Int
  | 0 => []
  | m + 1 => tkK n k m ++ [rmK n k m / fac (n - 1 - m)]
theorem tkK_len {n : Nat} {k : Int} : ∀ {m : Nat}, (tkK n k m).length = m
  | 0 => rfl
  | m + 1 => by simp [tkK, tkK_len]
theorem tkK_eq {n : Nat} {k : Int} : ∀ {m : Nat}, m ≤ n → tkK n k m ++ tk (n - m) (rmK n k m) = tk n k
  | 0, _ => rfl
  | m + 1, h => by
    rw [← tkK_eq (n := n) (k := k) (m := m) (by omega)]
    have e : n - m = (n - 1 - m) + 1 := by omega
    rw [e, show n - (m + 1) = n - 1 - m by omega]
    simp only [tk, tkK, rmK, List.append_assoc, List.singleton_append]
theorem tkK_all {n : Nat} {k : Int} : tkK n k n = tk n k := by
  have := tkK_eq (n := n) (k := k) (Nat.le_refl n)
  rw [Nat.sub_self] at this
  simpa [tk] using this
theorem rmK_bnd {n : Nat} {k : Int} (h0 : 0 ≤ k) (h1 : k < fac n) : ∀ {m : Nat}, m ≤ n → 0 ≤ rmK n k m ∧ rmK n k m < fac (n - m)
  | 0, _ => ⟨h0, h1⟩
  | m + 1, h => by
    have hp : (0 : Int) < fac (n - 1 - m) := by have := fac_pos (n - 1 - m); omega
    simp only [rmK]
    rw [show n - (m + 1) = n - 1 - m by omega]
    exact ⟨Int.emod_nonneg _ (by omega), Int.emod_lt_of_pos _ hp⟩
/-- The order with number k. -/
def itm (n : Nat) (k : Int) : List Int := outK (tk n k) n
theorem idx_val {L : List Int} : ∀ {d k : Nat}, k + d = L.length → idxK L k + val ((tbl L).drop k) = idxK L L.length
  | 0, k, h => by
    have : k = L.length := by omega
    subst this
    rw [List.drop_of_length_le (by rw [tbl_len]; omega)]
    simp [val]
  | d + 1, k, h => by
    have hk : k < (tbl L).length := by rw [tbl_len]; omega
    have e : (tbl L).drop k = cntB L k L.length :: (tbl L).drop (k + 1) := by
      rw [List.drop_eq_getElem_cons hk]
      congr 1
      have := tbl_at (L := L) (i := k) (by omega)
      simp only [List.getD, List.getElem?_eq_getElem hk, Option.getD_some] at this
      exact this
    rw [e, ← idx_val (L := L) (d := d) (k := k + 1) (by omega)]
    simp only [val, idxK, List.length_drop, tbl_len]
    rw [show L.length - (k + 1) = L.length - 1 - k by omega]
    omega
theorem idx_eq {L : List Int} : idxK L L.length = val (tbl L) := by
  have := idx_val (L := L) (d := L.length) (k := 0) (by omega)
  simpa [idxK] using this.symm
theorem itm_idx {L : List Int} (h : Ok L) : itm L.length (idxK L L.length) = L ∧ 0 ≤ idxK L L.length ∧ idxK L L.length < fac L.length := by
  obtain ⟨h1, h2⟩ := made_tbl h
  have h3 : okT (tbl L) := okK_ok (by rw [tbl_len]; exact h1)
  have h4 := val_bnd h3
  have h5 := tk_val h3
  rw [tbl_len] at h4 h5
  rw [idx_eq]
  exact ⟨by unfold itm; rw [h5]; exact h2, h4⟩
theorem itm_ord {n : Nat} {k : Int} (h0 : 0 ≤ k) (h1 : k < fac n) (hn : n ≤ 12) : IsOrd (itm n k) ∧ tbl (itm n k) = tk n k ∧ (itm n k).length = n ∧ okK (tk n k) n := by
  have h2 := ok_okK (tk_ok h0 h1)
  have h3 := made_ord (t := tk n k) h2 (by rw [tk_len]; exact hn)
  have h4 := (made_perm (t := tk n k) h2).2
  rw [tk_len] at h3 h4 h2
  exact ⟨h3, h4, outK_len, h2⟩
end MD
end Od
end Go.Proofs.YtocgehoffdjijaaGreat
/- order: the reference's Factorial; the law OrderSums. -/
namespace Go.Proofs.YtocgehoffdjijaaGreat
namespace Od
set_option maxRecDepth 20000
open Gv CY RW
theorem fac_mul {j : Nat} (h : 1 ≤ j) : (fac (j - 1) : Int) * j = fac j := by
  obtain ⟨p, rfl⟩ : ∃ p, j = p + 1 := ⟨j - 1, by omega⟩
  show ((fac p : Nat) : Int) * ((p + 1 : Nat) : Int) = (((p + 1) * fac p : Nat) : Int)
  rw [← Int.natCast_mul, Nat.mul_comm]
theorem fac20 {m : Nat} (h : m ≤ 20) : (fac m : Int) ≤ 2432902008176640000 := by
  have := fac_mono h
  have h2 : fac 20 = 2432902008176640000 := by decide
  omega
end Od
end Go.Proofs.YtocgehoffdjijaaGreat
