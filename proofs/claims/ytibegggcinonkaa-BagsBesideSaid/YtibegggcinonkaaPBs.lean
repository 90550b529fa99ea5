/- Plain law: two graphs side by side. -/
import Derived.Test.YtibegggcinonkaaPBt
import Derived.Test.YtibegggcinonkaaR1
namespace Go.Proofs.Ytibegggcinonkaa
open Gv
/-- A graph's edges, further on. -/
def shE (a : Nat) (Y : List (Int × Int)) : List (Int × Int) := Y.map fun e => (e.1 + a, e.2 + a)
theorem sumTo_split {f : Nat → Int} {m : Nat} : ∀ {k : Nat}, sumTo f (m + k) = sumTo f m + sumTo (fun j => f (m + j)) k
  | 0 => by simp [sumTo]
  | k + 1 => by
    have := sumTo_split (f := f) (m := m) (k := k)
    rw [← Nat.add_assoc, sumTo, sumTo, this]; omega
section
variable {a b : Nat} {X Y : List (Int × Int)} {S1 S2 S3 T : List Int} {C D : Int → Bool} {k : Int}
theorem ed_bl {k : Nat} (hk : k < X.length) : ed (X ++ shE a Y) k = ed X k := by
  unfold ed; rw [List.getD_eq_getElem?_getD, List.getElem?_append_left hk, ← List.getD_eq_getElem?_getD]
theorem ed_br {j : Nat} (hj : j < Y.length) : ed (X ++ shE a Y) (X.length + j) = ((ed Y j).1 + a, (ed Y j).2 + a) := by
  unfold ed shE
  rw [List.getD_eq_getElem?_getD, List.getElem?_append_right (by omega), Nat.add_sub_cancel_left, List.getElem?_map, List.getD_eq_getElem?_getD, List.getElem?_eq_getElem hj]
  rfl
theorem len_b : (X ++ shE a Y).length = X.length + Y.length := by simp [shE]
theorem isG_b (hX : IsG a X) (hY : IsG b Y) (h : a + b ≤ 16) : IsG ((a + b : Nat) : Int) (X ++ shE a Y) := by
  have hx := hX.ed
  have hy := hY.ed
  have ha := hX.1
  have hb := hY.1
  refine isG_of (by omega) fun i hi => ?_
  rw [len_b] at hi
  by_cases c : i < X.length
  · rw [ed_bl c]
    have := hx i c
    refine ⟨by omega, fun k hk => ?_⟩
    rw [ed_bl (by omega)]
    exact (hX.2.2 i c).2 k hk
  · obtain ⟨j, rfl⟩ : ∃ j, i = X.length + j := ⟨i - X.length, by omega⟩
    have hj : j < Y.length := by omega
    rw [ed_br hj]
    have := hy j hj
    refine ⟨⟨by dsimp only; omega, by dsimp only; omega, by dsimp only; omega⟩, fun k hk => ?_⟩
    by_cases d : k < X.length
    · rw [ed_bl d]
      have h1 := hx k d
      intro e
      rw [e] at h1
      dsimp only at h1
      omega
    · obtain ⟨l, rfl⟩ : ∃ l, k = X.length + l := ⟨k - X.length, by omega⟩
      rw [ed_br (by omega)]
      intro e
      refine (hY.2.2 j hj).2 l (by omega) ?_
      injection e with e1 e2
      exact Prod.ext (by change (ed Y l).1 = (ed Y j).1; omega) (by change (ed Y l).2 = (ed Y j).2; omega)
theorem insM_b : insM (X ++ shE a Y) T = insM X T + insM Y (T.map fun x => x - (a : Int)) := by
  have hm : ∀ x : Int, x ∈ T.map (fun x => x - (a : Int)) ↔ x + a ∈ T := fun x => by
    rw [List.mem_map]
    constructor
    · rintro ⟨y, hy, rfl⟩; rw [Int.sub_add_cancel]; exact hy
    · intro h; exact ⟨x + a, h, by omega⟩
  unfold insM
  rw [len_b, sumTo_split]
  congr 1
  · refine sumTo_congr fun k hk => ?_
    unfold bothIn
    rw [ed_bl hk]
  · refine sumTo_congr fun k hk => ?_
    unfold bothIn
    rw [ed_br hk]
    simp only [hm]
theorem nbP_b {v : Int} : nbP (X ++ shE a Y) C v = nbP X C v + nbP Y (fun u => C (u + a)) (v - a) := by
  unfold nbP
  rw [len_b, sumTo_split]
  congr 1
  · refine sumTo_congr fun k hk => ?_
    rw [ed_bl hk]
  · refine sumTo_congr fun k hk => ?_
    rw [ed_br hk]
    dsimp only
    have h1 : ((ed Y k).1 + (a : Int) = v) ↔ (ed Y k).1 = v - a := by omega
    have h2 : ((ed Y k).2 + (a : Int) = v) ↔ (ed Y k).2 = v - a := by omega
    simp only [h1, h2]
theorem nbP_out {n : Nat} {L : List (Int × Int)} {v : Int} (hE : EdOk n L) (hv : v < 0 ∨ (n : Int) ≤ v) : nbP L C v = 0 := by
  unfold nbP
  refine (sumTo_congr (g := fun _ => 0) fun k hk => ?_).trans sumTo_zero
  have := hE k hk
  rw [if_neg]
  rintro (h | h)
  · omega
  · omega
/-- A set's part in the first and in the second graph. -/
theorem filter_len (p : Int → Bool) : ∀ T : List Int, T.length = (T.filter p).length + (T.filter fun x => !p x).length
  | [] => rfl
  | x :: r => by
    have := filter_len p r
    cases h : p x <;> simp [h] <;> omega
theorem insM_part (hX : EdOk a X) (hY : EdOk b Y) : insM (X ++ shE a Y) T = insM X (T.filter fun x : Int => decide (x < (a : Int))) + insM Y ((T.filter fun x : Int => !decide (x < (a : Int))).map fun x => x - (a : Int)) := by
  rw [insM_b]
  congr 1
  · unfold insM
    refine sumTo_congr fun k hk => ?_
    have := hX k hk
    have h1 : (ed X k).1 ∈ T.filter (fun x : Int => decide (x < (a : Int))) ↔ (ed X k).1 ∈ T := by rw [List.mem_filter]; exact ⟨fun h => h.1, fun h => ⟨h, decide_eq_true (by omega)⟩⟩
    have h2 : (ed X k).2 ∈ T.filter (fun x : Int => decide (x < (a : Int))) ↔ (ed X k).2 ∈ T := by rw [List.mem_filter]; exact ⟨fun h => h.1, fun h => ⟨h, decide_eq_true (by omega)⟩⟩
    unfold bothIn
    simp only [h1, h2]
  · unfold insM
    refine sumTo_congr fun k hk => ?_
    have hg := hY k hk
    have hm : ∀ x : Int, 0 ≤ x → (x ∈ (T.filter fun x : Int => !decide (x < (a : Int))).map (fun x => x - (a : Int)) ↔ x ∈ T.map fun x => x - (a : Int)) := fun x hx => by
      rw [List.mem_map, List.mem_map]
      constructor
      · rintro ⟨y, hy, rfl⟩; exact ⟨y, (List.mem_filter.1 hy).1, rfl⟩
      · rintro ⟨y, hy, rfl⟩; exact ⟨y, List.mem_filter.2 ⟨hy, by rw [decide_eq_false (by omega)]; rfl⟩, rfl⟩
    have h1 := hm (ed Y k).1 (by omega)
    have h2 := hm (ed Y k).2 (by omega)
    unfold bothIn
    simp only [h1, h2]
theorem nodup_map_sub {c : Int} {T : List Int} (h : T.Nodup) : (T.map fun x => x - c).Nodup := by
  unfold List.Nodup at *
  rw [List.pairwise_map]
  exact h.imp fun h => by omega
theorem nodup_map_add {c : Int} {T : List Int} (h : T.Nodup) : (T.map fun x => x + c).Nodup := by
  unfold List.Nodup at *
  rw [List.pairwise_map]
  exact h.imp fun h => by omega
theorem cross {p x l m y q : Int} (hl : 0 < l) (hq : 0 ≤ q) (h1 : p * l ≤ x * q) (h2 : x * m ≤ y * l) (hm : 0 ≤ m) : p * m ≤ y * q := by
  have a1 : p * l * m ≤ x * q * m := Int.mul_le_mul_of_nonneg_right h1 hm
  have a2 : x * m * q ≤ y * l * q := Int.mul_le_mul_of_nonneg_right h2 hq
  have e1 : p * l * m = p * m * l := by rw [Int.mul_assoc, Int.mul_comm l, ← Int.mul_assoc]
  have e2 : x * q * m = x * m * q := by rw [Int.mul_assoc, Int.mul_comm q, ← Int.mul_assoc]
  have e3 : y * l * q = y * q * l := by rw [Int.mul_assoc, Int.mul_comm l, ← Int.mul_assoc]
  exact Int.le_of_mul_le_mul_right (show p * m * l ≤ y * q * l by omega) hl
theorem beside_cross (hX : EdOk a X) (hY : EdOk b Y) (h1 : Dens a X S1) (h2 : Dens b Y S2) (h3 : Dens ((a + b : Nat) : Int) (X ++ shE a Y) S3) :
    (insM X S1 * S2.length ≤ insM Y S2 * S1.length → insM (X ++ shE a Y) S3 * S2.length = insM Y S2 * S3.length) ∧ (insM Y S2 * S1.length ≤ insM X S1 * S2.length → insM (X ++ shE a Y) S3 * S1.length = insM X S1 * S3.length) := by
  have l1 := h1.pos
  have l2 := h2.pos
  have hp := insM_part (T := S3) hX hY
  have hP := h1.best (S3.filter fun x : Int => decide (x < (a : Int))) (h3.asc.nodup.filter _) fun v hv => by
    have h := List.mem_filter.1 hv
    have h4 := h3.rng v h.1
    have h5 := of_decide_eq_true h.2
    omega
  have hQ := h2.best ((S3.filter fun x : Int => !decide (x < (a : Int))).map fun x => x - (a : Int)) (nodup_map_sub (h3.asc.nodup.filter _)) fun v hv => by
    obtain ⟨y, hy, rfl⟩ := List.mem_map.1 hv
    have h := List.mem_filter.1 hy
    have h4 := h3.rng y h.1
    have h5 : ¬ y < a := by simpa using h.2
    omega
  have hlen := filter_len (fun x : Int => decide (x < (a : Int))) S3
  have hl3 : ((S3.filter fun x : Int => decide (x < (a : Int))).length : Int) + ((S3.filter fun x : Int => !decide (x < (a : Int))).map fun x => x - (a : Int)).length = S3.length := by
    rw [List.length_map]; omega
  have hlow1 := h3.best S1 h1.asc.nodup fun v hv => by have := h1.rng v hv; omega
  have hlow2 := h3.best (S2.map fun x => x + (a : Int)) (nodup_map_add h2.asc.nodup) fun v hv => by
    obtain ⟨y, hy, rfl⟩ := List.mem_map.1 hv
    have := h2.rng y hy; omega
  have g1 : insM X S1 ≤ insM (X ++ shE a Y) S1 := by
    rw [insM_b]; have := insM_nonneg (L := Y) (S := S1.map fun x => x - (a : Int)); omega
  have g2 : insM Y S2 ≤ insM (X ++ shE a Y) (S2.map fun x => x + (a : Int)) := by
    rw [insM_b, List.map_map]
    have e : ((fun x => x - (a : Int)) ∘ fun x => x + (a : Int)) = id := by funext x; simp
    rw [e, List.map_id]
    have := insM_nonneg (L := X) (S := S2.map fun x => x + (a : Int)); omega
  rw [List.length_map] at hlow2
  have low1 : insM X S1 * S3.length ≤ insM (X ++ shE a Y) S3 * S1.length := Int.le_trans (Int.mul_le_mul_of_nonneg_right g1 (by omega)) hlow1
  have low2 : insM Y S2 * S3.length ≤ insM (X ++ shE a Y) S3 * S2.length := Int.le_trans (Int.mul_le_mul_of_nonneg_right g2 (by omega)) hlow2
  rw [hp] at low1 low2 ⊢
  have hlp : 0 ≤ ((S3.filter fun x : Int => decide (x < (a : Int))).length : Int) := by omega
  have hlq : 0 ≤ (((S3.filter fun x : Int => !decide (x < (a : Int))).map fun x => x - (a : Int)).length : Int) := by omega
  generalize insM X (S3.filter fun x : Int => decide (x < (a : Int))) = p at *
  generalize insM Y ((S3.filter fun x : Int => !decide (x < (a : Int))).map fun x => x - (a : Int)) = q at *
  generalize ((S3.filter fun x : Int => decide (x < (a : Int))).length : Int) = lp at *
  generalize (((S3.filter fun x : Int => !decide (x < (a : Int))).map fun x => x - (a : Int)).length : Int) = lq at *
  clear hlen hlow1 hlow2 g1 g2
  constructor
  · intro c
    have h4 : p * S2.length ≤ insM Y S2 * lp := cross (by omega) hlp hP c (by omega)
    have h5 : (p + q) * S2.length ≤ insM Y S2 * S3.length := by rw [← hl3, Int.add_mul, Int.mul_add]; omega
    exact Int.le_antisymm h5 low2
  · intro c
    have h4 : q * S1.length ≤ insM X S1 * lq := cross (by omega) hlq hQ c (by omega)
    have h5 : (p + q) * S1.length ≤ insM X S1 * S3.length := by rw [← hl3, Int.add_mul, Int.mul_add]; omega
    exact Int.le_antisymm h5 low1
/-- The density of both is the greater one. -/
theorem beside_dens (hX : IsG a X) (hY : IsG b Y) (h1 : Dens a X S1) (h2 : Dens b Y S2) (h3 : Dens ((a + b : Nat) : Int) (X ++ shE a Y) S3) :
    (dnum X S1 * dden Y S2 < dnum Y S2 * dden X S1 → dnum (X ++ shE a Y) S3 = dnum Y S2 ∧ dden (X ++ shE a Y) S3 = dden Y S2) ∧ (¬ dnum X S1 * dden Y S2 < dnum Y S2 * dden X S1 → dnum (X ++ shE a Y) S3 = dnum X S1 ∧ dden (X ++ shE a Y) S3 = dden X S1) := by
  obtain ⟨c1, c2⟩ := beside_cross hX.ed hY.ed h1 h2 h3
  simp only [← insE_insM] at c1 c2
  have l1 := h1.pos
  have l2 := h2.pos
  have l3 := h3.pos
  constructor
  · intro hlt
    have hle : insE X S1 X.length * S2.length ≤ insE Y S2 Y.length * S1.length := by
      refine Decidable.byContradiction fun c => ?_
      have := rat_le (a := insE Y S2 Y.length) (b := S2.length) (c := insE X S1 X.length) (d := S1.length) l2 l1 (by omega)
      unfold dnum dden at hlt
      omega
    exact red_eq l3 l2 (by exact_mod_cast c1 (by exact_mod_cast hle))
  · intro hlt
    have hle : insE Y S2 Y.length * S1.length ≤ insE X S1 X.length * S2.length := by
      refine Decidable.byContradiction fun c => ?_
      have := rat_lt (a := insE X S1 X.length) (b := S1.length) (c := insE Y S2 Y.length) (d := S2.length) l1 l2 (by omega)
      unfold dnum dden at hlt
      omega
    exact red_eq l3 l1 (by exact_mod_cast c2 (by exact_mod_cast hle))
theorem eq_of_pos {c d : Int} (hc : 0 ≤ c) (hd : 0 ≤ d) (h : ∀ k, 0 < k → (k ≤ c ↔ k ≤ d)) : c = d := by
  by_cases e : c = 0
  · by_cases f : d = 0
    · omega
    · have := (h d (by omega)).2 (Int.le_refl _); omega
  · have h1 := (h c (by omega)).1 (Int.le_refl _)
    have h2 := (h d (by omega)).2 (Int.le_refl _)
    omega
theorem beside_lo (hX : EdOk a X) (hY : EdOk b Y) (hZ : EdOk (a + b) (X ++ shE a Y)) {v : Nat} (hv : v < a) : (peC (X ++ shE a Y) (a + b) (a + b)).getD v 0 = (peC X a a).getD v 0 := by
  refine eq_of_pos (peC_le (by omega)).1 (peC_le hv).1 fun k hk => ?_
  rw [core_iff hZ hk (by omega), core_iff hX hk hv]
  constructor
  · rintro ⟨C, hC, hCv⟩
    refine ⟨fun u => decide (0 ≤ u ∧ u < (a : Int)) && C u, fun u hu => ?_, by simp [hCv]; omega⟩
    rw [Bool.and_eq_true, decide_eq_true_eq] at hu
    refine ⟨hu.1, ?_⟩
    have h1 := (hC u hu.2).2
    rw [nbP_b, nbP_out hY (.inl (by omega)), Int.add_zero] at h1
    refine Int.le_trans h1 (nbP_on fun k hk => ?_)
    have := hX k hk
    exact ⟨fun h => by rw [h, decide_eq_true (by omega)]; rfl, fun h => by rw [h, decide_eq_true (by omega)]; rfl⟩
  · rintro ⟨C, hC, hCv⟩
    refine ⟨C, fun u hu => ⟨by have := (hC u hu).1; omega, ?_⟩, hCv⟩
    have h1 := (hC u hu).2
    have h2 := nbP_nonneg (L := Y) (P := fun x => C (x + a)) (v := u - a)
    rw [nbP_b]; omega
theorem beside_hi (hX : EdOk a X) (hY : EdOk b Y) (hZ : EdOk (a + b) (X ++ shE a Y)) {v : Nat} (hv : v < b) : (peC (X ++ shE a Y) (a + b) (a + b)).getD (a + v) 0 = (peC Y b b).getD v 0 := by
  refine eq_of_pos (peC_le (by omega)).1 (peC_le hv).1 fun k hk => ?_
  rw [core_iff hZ hk (by omega), core_iff hY hk hv]
  constructor
  · rintro ⟨C, hC, hCv⟩
    refine ⟨fun u => decide (0 ≤ u) && C (u + a), fun u hu => ?_, ?_⟩
    · rw [Bool.and_eq_true, decide_eq_true_eq] at hu
      have h0 := (hC _ hu.2).1
      refine ⟨by omega, ?_⟩
      have h1 := (hC _ hu.2).2
      rw [nbP_b, nbP_out hX (.inr (by omega)), Int.zero_add, Int.add_sub_cancel] at h1
      refine Int.le_trans h1 (nbP_on fun k hk => ?_)
      have := hY k hk
      exact ⟨fun h => by rw [h, decide_eq_true (by omega)]; rfl, fun h => by rw [h, decide_eq_true (by omega)]; rfl⟩
    · have e : ((v : Int) + a) = ((a + v : Nat) : Int) := by omega
      dsimp only
      rw [e, hCv, decide_eq_true (by omega)]; rfl
  · rintro ⟨C, hC, hCv⟩
    refine ⟨fun u => C (u - a), fun u hu => ?_, ?_⟩
    · have h0 := (hC _ hu).1
      refine ⟨by omega, ?_⟩
      have h1 := (hC _ hu).2
      have h2 := nbP_nonneg (L := X) (P := fun x => C (x - a)) (v := u)
      rw [nbP_b]
      have e : (fun u : Int => C (u + a - a)) = C := by funext u; rw [Int.add_sub_cancel]
      rw [e]; omega
    · have e : ((a + v : Nat) : Int) - a = v := by omega
      dsimp only
      rw [e, hCv]
theorem beside_core (hX : EdOk a X) (hY : EdOk b Y) (hZ : EdOk (a + b) (X ++ shE a Y)) : peC (X ++ shE a Y) (a + b) (a + b) = peC X a a ++ peC Y b b := by
  have l1 := peC_len (L := X) (n := a) a
  have l2 := peC_len (L := Y) (n := b) b
  have l3 := peC_len (L := X ++ shE a Y) (n := a + b) (a + b)
  refine List.ext_getElem (by rw [List.length_append]; omega) fun i h1 h2 => ?_
  rw [← getD_lt h1, ← getD_lt h2]
  by_cases c : i < a
  · rw [beside_lo hX hY hZ c, List.getD_eq_getElem?_getD, List.getD_eq_getElem?_getD, List.getElem?_append_left (by omega)]
  · obtain ⟨v, rfl⟩ : ∃ v, i = a + v := ⟨i - a, by omega⟩
    rw [beside_hi hX hY hZ (by omega), List.getD_eq_getElem?_getD, List.getD_eq_getElem?_getD, List.getElem?_append_right (by omega), l1, Nat.add_sub_cancel_left]
end
end Go.Proofs.Ytibegggcinonkaa
