/- Plain law: at most (n - 1) (n - 1) + 1 choices of which each has a pair that no later one has. No program in sight. -/
import Derived.Test.YtdpckinhoooigaaPCount
namespace Go.Proofs.Ytdpckinhoooigaa
namespace PM
open MM
theorem sumL_zero (U : List Nat) : sumL U (fun _ => 0) = 0 := by
  induction U with
  | nil => rfl
  | cons u U ih => rw [sumL_cons, ih]; rfl
/-- More unknowns than equations. -/
theorem homog : ∀ (m : Nat) (A : Nat → Nat → Int) (U : List Nat), U.Nodup → m < U.length → ∃ a : Nat → Int, (∃ k, k ∈ U ∧ a k ≠ 0) ∧ ∀ e, e < m → sumL U (fun k => A e k * a k) = 0
  | 0, A, U, hU, h => by
    obtain ⟨u, hu⟩ := List.exists_mem_of_ne_nil U (by intro e; subst e; simp at h)
    exact ⟨fun _ => 1, ⟨u, hu, (by show (1 : Int) ≠ 0; decide)⟩, fun e he => by omega⟩
  | m + 1, A, U, hU, h => by
    by_cases hz : ∀ k, k ∈ U → A m k = 0
    · obtain ⟨a, ha, hs⟩ := homog m A U hU (by omega)
      refine ⟨a, ha, fun e he => ?_⟩
      by_cases e1 : e = m
      · subst e1
        rw [sumL_congr (g := fun _ => 0) fun k hk => by rw [hz k hk]; simp, sumL_zero]
      · exact hs e (by omega)
    · have hz' : ∃ k, k ∈ U ∧ A m k ≠ 0 := Classical.byContradiction fun hno => hz fun k hk => Classical.byContradiction fun h0 => hno ⟨k, hk, h0⟩
      obtain ⟨k0, hk0, hp⟩ := hz'
      obtain ⟨b, ⟨k1, hk1, hb1⟩, hs⟩ := homog m (fun e k => A e k * A m k0 - A e k0 * A m k) (U.erase k0) (hU.erase _) (by rw [List.length_erase_of_mem hk0]; omega)
      have hne : ∀ k, k ∈ U.erase k0 → k ≠ k0 := fun k hk e => by subst e; exact hU.not_mem_erase hk
      refine ⟨fun k => if k = k0 then - sumL (U.erase k0) (fun k => A m k * b k) else A m k0 * b k, ⟨k1, List.mem_of_mem_erase hk1, ?_⟩, fun e he => ?_⟩
      · dsimp only
        rw [if_neg (hne k1 hk1)]
        exact Int.mul_ne_zero hp hb1
      · have hsplit : sumL U (fun k => A e k * (if k = k0 then - sumL (U.erase k0) (fun k => A m k * b k) else A m k0 * b k)) =
            sumL (U.erase k0) (fun k => A e k * (A m k0 * b k)) + A e k0 * - sumL (U.erase k0) (fun k => A m k * b k) := by
          have h1 := sumL_erase hk0 (fun k => A e k * (if k = k0 then - sumL (U.erase k0) (fun k => A m k * b k) else A m k0 * b k))
          rw [if_pos rfl] at h1
          have h2 : sumL (U.erase k0) (fun k => A e k * (if k = k0 then - sumL (U.erase k0) (fun k => A m k * b k) else A m k0 * b k)) = sumL (U.erase k0) (fun k => A e k * (A m k0 * b k)) :=
            sumL_congr fun k hk => by rw [if_neg (hne k hk)]
          omega
        rw [hsplit]
        by_cases e1 : e = m
        · subst e1
          have : sumL (U.erase k0) (fun k => A e k * (A e k0 * b k)) = A e k0 * sumL (U.erase k0) (fun k => A e k * b k) := by
            rw [← sumL_mul]
            apply sumL_congr
            intro k _
            rw [Int.mul_left_comm]
          rw [this, Int.mul_neg]
          omega
        · have h3 := hs e (by omega)
          have h4 : sumL (U.erase k0) (fun k => (A e k * A m k0 - A e k0 * A m k) * b k) = sumL (U.erase k0) (fun k => A e k * (A m k0 * b k)) - A e k0 * sumL (U.erase k0) (fun k => A m k * b k) := by
            rw [← sumL_mul, ← sumL_sub]
            apply sumL_congr
            intro k _
            rw [Int.sub_mul, Int.mul_assoc, Int.mul_assoc]
          rw [h4] at h3
          rw [Int.mul_neg]
          omega
/-- Pairs of choices, as numbers. -/
def mt (p : Nat → Nat → Nat) (k i j : Nat) : Int := if p k i = j then 1 else 0
theorem perm_surj {n : Nat} {p : Nat → Nat} (h1 : ∀ r, r < n → p r < n) (h2 : ∀ r r', r < r' → r' < n → p r ≠ p r') {c : Nat} (hc : c < n) : ∃ r, r < n ∧ p r = c := by
  apply Classical.byContradiction
  intro hno
  have hn : ((List.range n).map p).Nodup := nodup_map List.nodup_range fun x y hx hy e => by
    simp only [List.mem_range] at hx hy
    rcases Nat.lt_trichotomy x y with h | h | h
    · exact absurd e (h2 x y h hy)
    · exact h
    · exact absurd e.symm (h2 y x h hx)
  have h3 : c ∉ (List.range n).map p := fun h => by
    obtain ⟨r, hr, e⟩ := List.mem_map.1 h
    exact hno ⟨r, by simpa using hr, e⟩
  have := nodup_len (a := c :: (List.range n).map p) (b := List.range n) (List.nodup_cons.2 ⟨h3, hn⟩) fun x hx => by
    rcases List.mem_cons.1 hx with rfl | hx
    · simpa using hc
    · obtain ⟨r, hr, rfl⟩ := List.mem_map.1 hx
      simpa using h1 r (by simpa using hr)
  simp at this
  omega
theorem sumN_sumL (n : Nat) (U : List Nat) (f : Nat → Nat → Int) : sumN n (fun i => sumL U (fun k => f i k)) = sumL U fun k => sumN n fun i => f i k := by
  induction n with
  | zero => simp only [sumN]; rw [sumL_zero]
  | succ n ih => simp only [sumN]; rw [ih, ← sumL_add]
theorem tri_bound {n K : Nat} (hn : 0 < n) {p : Nat → Nat → Nat} (h1 : ∀ k, k < K → ∀ r, r < n → p k r < n) (h2 : ∀ k, k < K → ∀ r r', r < r' → r' < n → p k r ≠ p k r')
    (ht : ∀ k, k < K → ∃ r, r < n ∧ ∀ j, k < j → j < K → p j r ≠ p k r) : K ≤ (n - 1) * (n - 1) + 1 := by
  obtain ⟨m, rfl⟩ : ∃ m, n = m + 1 := ⟨n - 1, by omega⟩
  rw [Nat.add_sub_cancel]
  apply Nat.le_of_not_lt
  intro hK
  obtain ⟨a, ⟨k0, hk0, ha0⟩, hs⟩ := homog (m * m + 1) (fun e k => if e < m * m then mt p k (e / m) (e % m) else 1) (List.range K) List.nodup_range (by rw [List.length_range]; exact hK)
  -- the sum of these matrices
  have htot : sumL (List.range K) (fun k => a k) = 0 := by
    have := hs (m * m) (by omega)
    rw [← this]
    apply sumL_congr
    intro k _
    rw [if_neg (Nat.lt_irrefl _), Int.one_mul]
  have hblk : ∀ i j, i < m → j < m → sumL (List.range K) (fun k => mt p k i j * a k) = 0 := fun i j hi hj => by
    have hm : 0 < m := by omega
    have hlt : i * m + j < m * m := by
      have := Nat.mul_le_mul_right m (show i + 1 ≤ m by omega)
      rw [Nat.add_mul, Nat.one_mul] at this
      omega
    have := hs (i * m + j) (by omega)
    rw [← this]
    apply sumL_congr
    intro k _
    rw [if_pos hlt]
    have e1 : (i * m + j) / m = i := by
      rw [Nat.mul_comm, Nat.mul_add_div hm, Nat.div_eq_of_lt hj, Nat.add_zero]
    have e2 : (i * m + j) % m = j := by
      rw [Nat.mul_comm, Nat.mul_add_mod, Nat.mod_eq_of_lt hj]
    rw [e1, e2]
  have hrow : ∀ i, i < m + 1 → sumN (m + 1) (fun j => sumL (List.range K) (fun k => mt p k i j * a k)) = 0 := fun i hi => by
    rw [sumN_sumL, ← htot]
    apply sumL_congr
    intro k hk
    have hk' : k < K := by simpa using hk
    rw [sumN_single (h1 k hk' i hi) (fun j => mt p k i j * a k) (fun j _ hne => by unfold mt; rw [if_neg (Ne.symm hne)]; simp)]
    unfold mt; simp
  have hcol : ∀ j, j < m + 1 → sumN (m + 1) (fun i => sumL (List.range K) (fun k => mt p k i j * a k)) = 0 := fun j hj => by
    rw [sumN_sumL, ← htot]
    apply sumL_congr
    intro k hk
    have hk' : k < K := by simpa using hk
    obtain ⟨r, hr, e⟩ := perm_surj (h1 k hk') (h2 k hk') hj
    rw [sumN_single hr (fun i => mt p k i j * a k) (fun i hi hne => by
      unfold mt
      rw [if_neg]
      · simp
      · intro e2
        rcases Nat.lt_trichotomy i r with h | h | h
        · exact h2 k hk' i r h hr (e2.trans e.symm)
        · exact hne h
        · exact h2 k hk' r i h hi (e.trans e2.symm))]
    unfold mt; simp [e]
  have hz1 : ∀ i, i < m → sumL (List.range K) (fun k => mt p k i m * a k) = 0 := fun i hi => by
    have := hrow i (by omega)
    simp only [sumN] at this
    rw [sumN_congr (g := fun _ => 0) (fun j hj => hblk i j hi hj), sumN_zero] at this
    omega
  have hz2 : ∀ j, j < m + 1 → sumL (List.range K) (fun k => mt p k m j * a k) = 0 := fun j hj => by
    have := hcol j hj
    simp only [sumN] at this
    rw [sumN_congr (g := fun _ => 0) (fun i hi => by
      by_cases e : j = m
      · subst e; exact hz1 i hi
      · exact hblk i j hi (by omega)), sumN_zero] at this
    omega
  have hall : ∀ i j, i < m + 1 → j < m + 1 → sumL (List.range K) (fun k => mt p k i j * a k) = 0 := fun i j hi hj => by
    by_cases e : i = m
    · subst e; exact hz2 j hj
    · by_cases e2 : j = m
      · subst e2; exact hz1 i (by omega)
      · exact hblk i j (by omega) (by omega)
  -- the first one that counts
  have hfirst : ∀ k, k < K → a k = 0 := by
    intro k
    induction k using Nat.strongRecOn with
    | _ k ih =>
      intro hk
      obtain ⟨r, hr, hj⟩ := ht k hk
      have h3 := hall r (p k r) hr (h1 k hk r hr)
      have h4 : sumL (List.range K) (fun j => mt p j r (p k r) * a j) = sumN K (fun j => mt p j r (p k r) * a j) := by
        clear h3 ih hk hj ht hs htot hblk hrow hcol hz1 hz2 hall hk0 hK h1 h2
        induction K with
        | zero => rfl
        | succ K ihK =>
          rw [List.range_succ]
          simp only [sumN]
          rw [← ihK]
          unfold sumL
          rw [List.map_append, List.sum_append]
          simp
      rw [h4, sumN_single hk (fun j => mt p j r (p k r) * a j) (fun j hjK hne => by
        rcases Nat.lt_trichotomy j k with h | h | h
        · rw [ih j h hjK]; simp
        · exact absurd h hne
        · unfold mt; rw [if_neg (hj j h hjK)]; simp)] at h3
      unfold mt at h3
      simpa using h3
  exact ha0 (hfirst k0 (by simpa using hk0))
end PM
end Go.Proofs.Ytdpckinhoooigaa
