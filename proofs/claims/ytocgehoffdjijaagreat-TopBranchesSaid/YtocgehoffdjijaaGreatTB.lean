/- Plain law: the ways between the places of a tree, its shortest tours, what is behind a place. No program in sight. -/
import Derived.Test.YtocgehoffdjijaaGreatTP
namespace Go.Proofs.YtocgehoffdjijaaGreat
open Gv
set_option maxRecDepth 20000
def PfOk (n : Nat) (pf : Nat → Nat) : Prop := ∀ x, 1 ≤ x → x < n → pf x < x
/-- How many pairs are between two places, of the first n ones. -/
def dN (pf : Nat → Nat) : Nat → Nat → Nat → Nat
  | 0, _, _ => 0
  | n + 1, i, j => if i = j then 0 else if i = n then dN pf n (pf n) j + 1 else if j = n then dN pf n i (pf n) + 1 else dN pf n i j
section
variable {pf : Nat → Nat}
theorem dN_self (n i : Nat) : dN pf n i i = 0 := by cases n <;> simp [dN]
theorem dN_old {n i j : Nat} (hi : i < n) (hj : j < n) : dN pf (n + 1) i j = dN pf n i j := by
  by_cases e : i = j
  · subst e; rw [dN_self, dN_self]
  · simp only [dN]; rw [if_neg e, if_neg (by omega), if_neg (by omega)]
theorem dN_new1 {n j : Nat} (hj : j < n) : dN pf (n + 1) n j = dN pf n (pf n) j + 1 := by simp only [dN]; rw [if_neg (by omega)]; simp
theorem dN_new2 {n i : Nat} (hi : i < n) : dN pf (n + 1) i n = dN pf n i (pf n) + 1 := by simp only [dN]; rw [if_neg (by omega), if_neg (by omega)]; simp
theorem PfOk.less {n : Nat} (h : PfOk (n + 1) pf) : PfOk n pf := fun x h1 h2 => h x h1 (by omega)
theorem dN_sym : ∀ {n : Nat} (_ : PfOk n pf) {i j : Nat} (_ : i < n) (_ : j < n), dN pf n i j = dN pf n j i
  | 0, _, i, _, hi, _ => by omega
  | n + 1, h, i, j, hi, hj => by
    by_cases h1 : i = n
    · subst h1
      by_cases h2 : j = i
      · rw [h2]
      · have := h i (by omega) (by omega)
        rw [dN_new1 (by omega), dN_new2 (by omega), dN_sym h.less this (by omega)]
    · by_cases h2 : j = n
      · subst h2
        have := h j (by omega) (by omega)
        rw [dN_new1 (by omega), dN_new2 (by omega), dN_sym h.less (by omega) this]
      · rw [dN_old (by omega) (by omega), dN_old (by omega) (by omega), dN_sym h.less (by omega) (by omega)]
theorem dN_zero : ∀ {n : Nat} (_ : PfOk n pf) {i j : Nat} (_ : i < n) (_ : j < n), dN pf n i j = 0 → i = j
  | 0, _, i, _, hi, _, _ => by omega
  | n + 1, h, i, j, hi, hj, e => by
    by_cases h1 : i = n
    · subst h1
      by_cases h2 : j = i
      · exact h2.symm
      · rw [dN_new1 (by omega)] at e; omega
    · by_cases h2 : j = n
      · subst h2
        rw [dN_new2 (by omega)] at e; omega
      · rw [dN_old (by omega) (by omega)] at e
        exact dN_zero h.less (by omega) (by omega) e
theorem dN_bnd : ∀ {n : Nat} (_ : PfOk n pf) {i j : Nat} (_ : i < n) (_ : j < n), dN pf n i j + 1 ≤ n
  | 0, _, i, _, hi, _ => by omega
  | n + 1, h, i, j, hi, hj => by
    by_cases h0 : i = j
    · rw [h0, dN_self]; omega
    by_cases h1 : i = n
    · subst h1
      have := h i (by omega) (by omega)
      rw [dN_new1 (by omega)]; have := dN_bnd h.less this (show j < i by omega); omega
    · by_cases h2 : j = n
      · subst h2
        have := h j (by omega) (by omega)
        rw [dN_new2 (by omega)]; have := dN_bnd h.less (show i < j by omega) this; omega
      · rw [dN_old (by omega) (by omega)]; have := dN_bnd h.less (show i < n by omega) (show j < n by omega); omega
theorem dN_tri : ∀ {n : Nat} (_ : PfOk n pf) {i j k : Nat} (_ : i < n) (_ : j < n) (_ : k < n), dN pf n i k ≤ dN pf n i j + dN pf n j k
  | 0, _, i, _, _, hi, _, _ => by omega
  | n + 1, h, i, j, k, hi, hj, hk => by
    by_cases hik : i = k
    · rw [hik, dN_self]; omega
    by_cases hij : i = j
    · rw [hij, dN_self]; omega
    by_cases hjk : j = k
    · rw [hjk, dN_self]; omega
    by_cases h1 : i = n
    · subst h1
      have := h i (by omega) (by omega)
      rw [dN_new1 (by omega), dN_new1 (by omega), dN_old (by omega) (by omega)]
      have := dN_tri h.less this (show j < i by omega) (show k < i by omega); omega
    by_cases h2 : k = n
    · subst h2
      have := h k (by omega) (by omega)
      rw [dN_new2 (by omega), dN_new2 (by omega), dN_old (by omega) (by omega)]
      have := dN_tri h.less (show i < k by omega) (show j < k by omega) this; omega
    by_cases h3 : j = n
    · subst h3
      have := h j (by omega) (by omega)
      rw [dN_new2 (by omega), dN_new1 (by omega), dN_old (by omega) (by omega)]
      have := dN_tri h.less (show i < j by omega) this (show k < j by omega); omega
    · rw [dN_old (by omega) (by omega), dN_old (by omega) (by omega), dN_old (by omega) (by omega)]
      exact dN_tri h.less (by omega) (by omega) (by omega)
/-- Two places of a pair. -/
def Adj (pf : Nat → Nat) (u v : Nat) : Prop := (1 ≤ u ∧ pf u = v) ∨ (1 ≤ v ∧ pf v = u)
instance (pf : Nat → Nat) (u v : Nat) : Decidable (Adj pf u v) := by unfold Adj; infer_instance
theorem Adj.symm {u v : Nat} (h : Adj pf u v) : Adj pf v u := h.elim .inr .inl
theorem adj_new {n u : Nat} (h : PfOk (n + 1) pf) (hu : u < n) (ha : Adj pf u n) : u = pf n := by
  rcases ha with ⟨h1, h2⟩ | ⟨_, h2⟩
  · have := h u h1 (by omega); omega
  · exact h2.symm
theorem adj_self {n u : Nat} (h : PfOk n pf) (hu : u < n) : ¬ Adj pf u u := by
  rintro (⟨h1, h2⟩ | ⟨h1, h2⟩) <;> · have := h u h1 hu; omega
theorem dN_adj : ∀ {n : Nat} (_ : PfOk n pf) {x u v : Nat} (_ : x < n) (_ : u < n) (_ : v < n) (_ : Adj pf u v), dN pf n x u = dN pf n x v + 1 ∨ dN pf n x v = dN pf n x u + 1
  | 0, _, x, _, _, hx, _, _, _ => by omega
  | n + 1, h, x, u, v, hx, hu, hv, ha => by
    have huv : u ≠ v := by rintro rfl; exact adj_self h hu ha
    by_cases h1 : x = n
    · subst h1
      by_cases h2 : u = x
      · subst h2
        have e := adj_new h (show v < u by omega) ha.symm
        subst e
        rw [dN_self, dN_new1 (by omega), dN_self]; omega
      · by_cases h3 : v = x
        · subst h3
          have e := adj_new h (show u < v by omega) ha
          subst e
          rw [dN_self, dN_new1 (by omega), dN_self]; omega
        · have := h x (by omega) (by omega)
          rw [dN_new1 (by omega), dN_new1 (by omega)]
          have := dN_adj h.less this (show u < x by omega) (show v < x by omega) ha; omega
    · by_cases h2 : u = n
      · subst h2
        have e := adj_new h (show v < u by omega) ha.symm
        subst e
        rw [dN_new2 (by omega), dN_old (by omega) (by omega)]; omega
      · by_cases h3 : v = n
        · subst h3
          have e := adj_new h (show u < v by omega) ha
          subst e
          rw [dN_new2 (by omega), dN_old (by omega) (by omega)]; omega
        · rw [dN_old (by omega) (by omega), dN_old (by omega) (by omega)]
          exact dN_adj h.less (by omega) (by omega) (by omega) ha
/-- Only one place before a place is nearer. -/
theorem dN_pred : ∀ {n : Nat} (_ : PfOk n pf) {x v u1 u2 : Nat} (_ : x < n) (_ : v < n) (_ : u1 < n) (_ : u2 < n) (_ : Adj pf u1 v) (_ : Adj pf u2 v) (_ : dN pf n x v = dN pf n x u1 + 1) (_ : dN pf n x v = dN pf n x u2 + 1), u1 = u2
  | 0, _, x, _, _, _, hx, _, _, _, _, _, _, _ => by omega
  | n + 1, h, x, v, u1, u2, hx, hv, h1, h2, a1, a2, e1, e2 => by
    by_cases hvn : v = n
    · subst hvn
      have n1 : u1 ≠ v := by rintro rfl; exact adj_self h h1 a1
      have n2 : u2 ≠ v := by rintro rfl; exact adj_self h h2 a2
      rw [adj_new h (by omega) a1, adj_new h (by omega) a2]
    by_cases hxn : x = n
    · subst hxn
      have hp := h x (by omega) (by omega)
      have key : ∀ u, u < x + 1 → Adj pf u v → dN pf (x + 1) x v = dN pf (x + 1) x u + 1 → (u = x ∧ v = pf x) ∨ (u < x ∧ dN pf x (pf x) v = dN pf x (pf x) u + 1) := by
        intro u hu ha e
        by_cases hux : u = x
        · subst hux
          exact .inl ⟨rfl, adj_new h (by omega) ha.symm⟩
        · rw [dN_new1 (by omega), dN_new1 (by omega)] at e
          exact .inr ⟨by omega, by omega⟩
      rcases key u1 h1 a1 e1 with ⟨b1, c1⟩ | ⟨b1, c1⟩ <;> rcases key u2 h2 a2 e2 with ⟨b2, c2⟩ | ⟨b2, c2⟩
      · omega
      · rw [c1, dN_self] at c2; omega
      · rw [c2, dN_self] at c1; omega
      · exact dN_pred h.less hp (by omega) b1 b2 a1 a2 c1 c2
    · have key : ∀ u, u < n + 1 → Adj pf u v → dN pf (n + 1) x v = dN pf (n + 1) x u + 1 → u < n := by
        intro u hu ha e
        by_cases hun : u = n
        · subst hun
          have := adj_new h (show v < u by omega) ha.symm
          subst this
          rw [dN_new2 (by omega), dN_old (by omega) (by omega)] at e; omega
        · omega
      have k1 := key u1 h1 a1 e1
      have k2 := key u2 h2 a2 e2
      rw [dN_old (by omega) (by omega), dN_old (by omega) (by omega)] at e1 e2
      exact dN_pred h.less (by omega) (by omega) k1 k2 a1 a2 e1 e2
/-- How long the way from a place through others and back to the first one is. -/
def rcN (pf : Nat → Nat) (n : Nat) : Nat → List Nat → Nat
  | s, [] => dN pf n s 0
  | s, v :: L => dN pf n s v + rcN pf n v L
theorem rcN_old {n : Nat} (hn : 1 ≤ n) : ∀ {L : List Nat} {s : Nat}, s < n → (∀ v ∈ L, v < n) → rcN pf (n + 1) s L = rcN pf n s L
  | [], s, hs, _ => dN_old hs (by omega)
  | v :: L, s, hs, hL => by
    have hv := hL v (by simp)
    simp only [rcN]
    rw [dN_old hs hv, rcN_old hn hv fun u hu => hL u (by simp [hu])]
theorem rcN_ins {n : Nat} (h : PfOk (n + 1) pf) (hn : 1 ≤ n) : ∀ {A B : List Nat} {s : Nat}, s < n → (∀ v ∈ A, v < n) → (∀ v ∈ B, v < n) → rcN pf n s (A ++ B) + 2 ≤ rcN pf (n + 1) s (A ++ n :: B)
  | [], [], s, hs, _, _ => by
    have hp := h n hn (by omega)
    simp only [rcN, List.nil_append]
    rw [dN_new2 hs, dN_new1 (by omega)]
    have := dN_tri h.less hs hp (show 0 < n by omega); omega
  | [], b :: B, s, hs, _, hB => by
    have hp := h n hn (by omega)
    have hb := hB b (by simp)
    simp only [rcN, List.nil_append]
    rw [dN_new2 hs, dN_new1 hb, rcN_old hn hb fun u hu => hB u (by simp [hu])]
    have := dN_tri h.less hs hp hb; omega
  | a :: A, B, s, hs, hA, hB => by
    have ha := hA a (by simp)
    have := rcN_ins h hn (A := A) (B := B) ha (fun u hu => hA u (by simp [hu])) hB
    simp only [rcN, List.cons_append]
    rw [dN_old hs ha]; omega
theorem rcN_put {n : Nat} (h : PfOk (n + 1) pf) (hn : 1 ≤ n) : ∀ {B : List Nat}, (∀ v ∈ B, v < n) → rcN pf (n + 1) (pf n) (n :: B) = rcN pf n (pf n) B + 2
  | [], _ => by
    have hp := h n hn (by omega)
    simp only [rcN]
    rw [dN_new2 hp, dN_self, dN_new1 (by omega)]; omega
  | b :: B, hB => by
    have hp := h n hn (by omega)
    have hb := hB b (by simp)
    simp only [rcN]
    rw [dN_new2 hp, dN_self, dN_new1 hb, rcN_old hn hb fun u hu => hB u (by simp [hu])]; omega
theorem rcN_putA {n : Nat} (h : PfOk (n + 1) pf) (hn : 1 ≤ n) : ∀ {A B : List Nat} {s : Nat}, s < n → (∀ v ∈ A, v < n) → (∀ v ∈ B, v < n) → rcN pf (n + 1) s (A ++ pf n :: n :: B) = rcN pf n s (A ++ pf n :: B) + 2
  | [], B, s, hs, _, hB => by
    have hp := h n hn (by omega)
    have := rcN_put h hn hB
    simp only [List.nil_append]
    show dN pf (n + 1) s (pf n) + rcN pf (n + 1) (pf n) (n :: B) = _
    rw [this, dN_old hs hp]
    simp only [rcN]; omega
  | a :: A, B, s, hs, hA, hB => by
    have ha := hA a (by simp)
    have := rcN_putA h hn (A := A) (B := B) ha (fun u hu => hA u (by simp [hu])) hB
    simp only [rcN, List.cons_append]
    rw [dN_old hs ha, this]; omega
/-- The other places, each once. -/
def Oth (n : Nat) (L : List Nat) : Prop := L.Nodup ∧ ∀ v, v ∈ L ↔ 1 ≤ v ∧ v < n
theorem tour_ge : ∀ {n : Nat} (_ : PfOk (n + 1) pf) {L : List Nat} (_ : Oth (n + 1) L), 2 * n ≤ rcN pf (n + 1) 0 L
  | 0, _, _, _ => by omega
  | n + 1, h, L, hL => by
    obtain ⟨A, B, rfl⟩ := List.append_of_mem ((hL.2 (n + 1)).2 (by omega))
    have hnd := List.nodup_append.1 hL.1
    have hnc := List.nodup_cons.1 hnd.2.1
    have hnA : n + 1 ∉ A := fun hm => hnd.2.2 _ hm _ (by simp) rfl
    have hlt : ∀ v ∈ A ++ B, v < n + 1 := fun v hv => by
      have h1 := (hL.2 v).1 (by simp only [List.mem_append, List.mem_cons] at hv ⊢; rcases hv with hv | hv <;> simp [hv])
      have h2 : v ≠ n + 1 := by rintro rfl; exact (List.mem_append.1 hv).elim hnA hnc.1
      omega
    have hO : Oth (n + 1) (A ++ B) := by
      refine ⟨List.nodup_append.2 ⟨hnd.1, hnc.2, fun a ha b hb => hnd.2.2 a ha b (by simp [hb])⟩, fun v => ⟨fun hv => ?_, fun hv => ?_⟩⟩
      · have h1 := (hL.2 v).1 (by simp only [List.mem_append, List.mem_cons] at hv ⊢; rcases hv with hv | hv <;> simp [hv])
        exact ⟨h1.1, hlt v hv⟩
      · have h1 := (hL.2 v).2 ⟨hv.1, by omega⟩
        simp only [List.mem_append, List.mem_cons] at h1 ⊢
        rcases h1 with h1 | h1 | h1
        · exact .inl h1
        · omega
        · exact .inr h1
    have h1 := tour_ge h.less hO
    have h2 := rcN_ins h (by omega) (A := A) (B := B) (s := 0) (by omega) (fun v hv => hlt v (by simp [hv])) (fun v hv => hlt v (by simp [hv]))
    omega
theorem tour_ex : ∀ {n : Nat} (_ : PfOk (n + 1) pf), ∃ L, Oth (n + 1) L ∧ rcN pf (n + 1) 0 L = 2 * n
  | 0, _ => ⟨[], ⟨List.nodup_nil, fun v => by simp; omega⟩, by simp only [rcN]; rw [dN_self]⟩
  | n + 1, h => by
    obtain ⟨L, hO, hr⟩ := tour_ex h.less
    have hp := h (n + 1) (by omega) (by omega)
    have hlt : ∀ v ∈ L, v < n + 1 := fun v hv => ((hO.2 v).1 hv).2
    have hmem : ∀ v, (v = n + 1 ∨ v ∈ L) ↔ 1 ≤ v ∧ v < n + 1 + 1 := fun v => by rw [hO.2 v]; omega
    have hno : n + 1 ∉ L := fun hm => by have := hlt _ hm; omega
    by_cases h0 : pf (n + 1) = 0
    · refine ⟨(n + 1) :: L, ⟨List.nodup_cons.2 ⟨hno, hO.1⟩, fun v => by rw [List.mem_cons, hmem]⟩, ?_⟩
      have := rcN_put h (by omega) hlt
      rw [h0] at this; omega
    · obtain ⟨A, B, rfl⟩ := List.append_of_mem ((hO.2 (pf (n + 1))).2 (by omega))
      have hnd := List.nodup_append.1 hO.1
      have hnc := List.nodup_cons.1 hnd.2.1
      refine ⟨A ++ pf (n + 1) :: (n + 1) :: B, ⟨?_, fun v => ?_⟩, ?_⟩
      · refine List.nodup_append.2 ⟨hnd.1, List.nodup_cons.2 ⟨?_, List.nodup_cons.2 ⟨fun hm => hno (by simp [hm]), hnc.2⟩⟩, ?_⟩
        · simp only [List.mem_cons]; rintro (e | e)
          · omega
          · exact hnc.1 e
        · intro a ha b hb
          simp only [List.mem_cons] at hb
          rcases hb with rfl | rfl | hb
          · exact hnd.2.2 a ha _ (by simp)
          · rintro rfl; exact hno (by simp [ha])
          · exact hnd.2.2 a ha b (by simp [hb])
      · rw [← hmem]; simp only [List.mem_append, List.mem_cons]
        constructor
        · rintro (h1 | h1 | h1 | h1)
          · exact .inr (.inl h1)
          · exact .inr (.inr (.inl h1))
          · exact .inl h1
          · exact .inr (.inr (.inr h1))
        · rintro (h1 | h1 | h1 | h1)
          · exact .inr (.inr (.inl h1))
          · exact .inl h1
          · exact .inr (.inl h1)
          · exact .inr (.inr (.inr h1))
      · have := rcN_putA h (by omega) (A := A) (B := B) (s := 0) (by omega) (fun v hv => hlt v (by simp [hv])) (fun v hv => hlt v (by simp [hv]))
        omega
/-- The table of all ways. -/
def tD (pf : Nat → Nat) (n : Nat) : List (List Int) := (List.range n).map fun x => (List.range n).map fun y => (dN pf n x y : Int)
theorem tD_len (n : Nat) : (tD pf n).length = n := by simp [tD]
theorem tD_row {n i : Nat} (hi : i < n) : (tD pf n).getD i [] = (List.range n).map fun y => (dN pf n i y : Int) := by simp [tD, List.getD, hi]
theorem tD_dT {n i j : Nat} (hi : i < n) (hj : j < n) : dT (tD pf n) i j = dN pf n i j := by unfold dT; rw [tD_row hi]; simp [List.getD, hj]
theorem tD_miles {n : Nat} (h : PfOk n pf) (h1 : 1 ≤ n) (h11 : n ≤ 11) : Miles (tD pf n) := by
  refine ⟨by rw [tD_len]; exact h1, by rw [tD_len]; exact h11, fun i hi => ?_, fun i j hi hj => ?_, fun i j hi hj => ?_, fun i hi => ?_⟩
  · rw [tD_len] at hi ⊢; rw [tD_row hi]; simp
  · rw [tD_len] at hi hj; rw [tD_dT hi hj]; have := dN_bnd h hi hj; omega
  · rw [tD_len] at hi hj; rw [tD_dT hi hj, tD_dT hj hi, dN_sym h hi hj]
  · rw [tD_len] at hi; rw [tD_dT hi hi, dN_self]; rfl
theorem rc_tD {n : Nat} (h1 : 1 ≤ n) : ∀ {L : List Nat} {s : Nat}, s < n → (∀ v ∈ L, v < n) → rc (tD pf n) s L = rcN pf n s L
  | [], s, hs, _ => tD_dT hs (by omega)
  | v :: L, s, hs, hL => by
    have hv := hL v (by simp)
    simp only [rc, rcN]
    rw [tD_dT hs hv, rc_tD h1 hv fun u hu => hL u (by simp [hu])]; omega
theorem fit_oth {n : Nat} {L : List Nat} (hn : 1 ≤ n) : Fit L (lft0 n) ↔ Oth n L := by
  unfold Fit Oth
  exact and_congr_right fun _ => forall_congr' fun v => by rw [lft0_bit hn]
/-- The shortest tour of a tree goes along each pair twice. -/
theorem tree_tour {n : Nat} (h : PfOk (n + 1) pf) (h11 : n + 1 ≤ 11) : lenK (tD pf (n + 1)) (bestT (tD pf (n + 1))) (bestT (tD pf (n + 1))).length = 2 * n := by
  have hM := tD_miles h (by omega) h11
  have hl := tD_len (pf := pf) (n + 1)
  obtain ⟨hF, hr⟩ := fit_bt hM (lft0 (tD pf (n + 1)).length) (lft0 (tD pf (n + 1)).length) 0 (Nat.le_refl _) (lft0_lt _) hM.n1
  obtain ⟨B, hB⟩ : ∃ B, B = btF (tD pf (n + 1)) (lft0 (tD pf (n + 1)).length) 0 (lft0 (tD pf (n + 1)).length) := ⟨_, rfl⟩
  have hbest : bestT (tD pf (n + 1)) = 0 :: B := by rw [hB]; rfl
  rw [← hB] at hF hr
  have e1 : lenK (tD pf (n + 1)) (0 :: B) (0 :: B).length = rc (tD pf (n + 1)) 0 B := lenK_tour B
  rw [hbest, e1]
  rw [hl] at hF hr
  have hO := (fit_oth (by omega)).1 hF
  have hge := tour_ge h hO
  have e2 := rc_tD (pf := pf) (n := n + 1) (by omega) (L := B) (s := 0) (by omega) fun v hv => ((hO.2 v).1 hv).2
  obtain ⟨L, hOL, hL⟩ := tour_ex h
  have hle := rs_rc hM L 0 (lft0 (tD pf (n + 1)).length) (lft0_lt _) hM.n1 (by rw [hl]; exact (fit_oth (by omega)).2 hOL)
  rw [hl, rc_tD (by omega) (by omega) fun v hv => ((hOL.2 v).1 hv).2, hL] at hle
  omega
/-- The neighbors of a place, as the first k pairs make them. -/
def nrK (pf : Nat → Nat) (v : Nat) : Nat → List Nat
  | 0 => []
  | k + 1 => nrK pf v k ++ ((if pf (k + 1) = v then [k + 1] else []) ++ (if k + 1 = v then [pf (k + 1)] else []))
theorem nrK_mem {v u : Nat} : ∀ {k : Nat}, u ∈ nrK pf v k ↔ (1 ≤ u ∧ u ≤ k ∧ pf u = v) ∨ (1 ≤ v ∧ v ≤ k ∧ pf v = u)
  | 0 => by simp [nrK]; omega
  | k + 1 => by
    simp only [nrK, List.mem_append]
    rw [nrK_mem]
    have h1 : (u ∈ if pf (k + 1) = v then [k + 1] else []) ↔ pf (k + 1) = v ∧ u = k + 1 := by split <;> simp [*]
    have h2 : (u ∈ if k + 1 = v then [pf (k + 1)] else []) ↔ k + 1 = v ∧ u = pf (k + 1) := by split <;> simp [*]
    rw [h1, h2]
    constructor
    · rintro ((h | h) | h | h)
      · exact .inl ⟨h.1, by omega, h.2.2⟩
      · exact .inr ⟨h.1, by omega, h.2.2⟩
      · obtain ⟨h3, rfl⟩ := h; exact .inl ⟨by omega, by omega, h3⟩
      · obtain ⟨rfl, rfl⟩ := h; exact .inr ⟨by omega, by omega, rfl⟩
    · rintro (⟨h3, h4, h5⟩ | ⟨h3, h4, h5⟩)
      · by_cases e : u = k + 1
        · subst e; exact .inr (.inl ⟨h5, rfl⟩)
        · exact .inl (.inl ⟨h3, by omega, h5⟩)
      · by_cases e : v = k + 1
        · subst e; exact .inr (.inr ⟨rfl, h5.symm⟩)
        · exact .inl (.inr ⟨h3, by omega, h5⟩)
theorem nrK_nodup {v : Nat} : ∀ {k : Nat}, PfOk (k + 1) pf → (nrK pf v k).Nodup
  | 0, _ => List.nodup_nil
  | k + 1, h => by
    have hp := h (k + 1) (by omega) (by omega)
    have ih := nrK_nodup (v := v) h.less
    have hnot : k + 1 ∉ nrK pf v k := fun hm => by
      rcases nrK_mem.1 hm with ⟨_, h2, _⟩ | ⟨h1, h2, h3⟩
      · omega
      · have := h v h1 (by omega); omega
    simp only [nrK]
    by_cases h1 : pf (k + 1) = v
    · rw [if_pos h1, if_neg (by omega), List.append_nil]
      exact List.nodup_append.2 ⟨ih, by simp, fun a ha b hb => by simp at hb; subst hb; rintro rfl; exact hnot ha⟩
    · rw [if_neg h1, List.nil_append]
      by_cases h2 : k + 1 = v
      · rw [if_pos h2]
        refine List.nodup_append.2 ⟨ih, by simp, fun a ha b hb => ?_⟩
        simp at hb; subst hb; rintro rfl
        subst h2
        rcases nrK_mem.1 ha with ⟨h3, h4, h5⟩ | ⟨h3, h4, h5⟩
        · have := h _ h3 (by omega); omega
        · omega
      · rw [if_neg h2, List.append_nil]; exact ih
theorem nrK_adj {n v u : Nat} (hn : 1 ≤ n) (hv : v < n) : u ∈ nrK pf v (n - 1) ↔ u < n ∧ Adj pf u v ∨ (1 ≤ v ∧ pf v = u) := by
  rw [nrK_mem]; unfold Adj
  constructor
  · rintro (⟨h1, h2, h3⟩ | ⟨h1, h2, h3⟩)
    · exact .inl ⟨by omega, .inl ⟨h1, h3⟩⟩
    · exact .inr ⟨h1, h3⟩
  · rintro (⟨h1, h2 | h2⟩ | h1)
    · exact .inl ⟨h2.1, by omega, h2.2⟩
    · exact .inr ⟨h2.1, by omega, h2.2⟩
    · exact .inr ⟨h1.1, by omega, h1.2⟩
theorem nr_iff {n v u : Nat} (h : PfOk n pf) (hv : v < n) : u ∈ nrK pf v (n - 1) ↔ u < n ∧ Adj pf u v := by
  rw [nrK_adj (by omega) hv]
  constructor
  · rintro (h1 | ⟨h1, rfl⟩)
    · exact h1
    · exact ⟨by have := h v h1 hv; omega, .inr ⟨h1, rfl⟩⟩
  · exact .inl
theorem nr_nodup {n v : Nat} (h : PfOk n pf) (hn : 1 ≤ n) : (nrK pf v (n - 1)).Nodup := nrK_nodup (by rwa [show n - 1 + 1 = n by omega])
theorem nrK_len {v : Nat} : ∀ k, (nrK pf v k).length ≤ 2 * k
  | 0 => Nat.le_refl _
  | k + 1 => by have := nrK_len (v := v) k; simp only [nrK, List.length_append]; split <;> split <;> simp <;> omega
/-- What is reached from a place that all neighbors are reached from is all. -/
theorem reach_all {n : Nat} (h : PfOk n pf) {Q : Nat → Prop} {a : Nat} (ha : a < n) (hQ : Q a) (hc : ∀ v u, v < n → u < n → Q v → Adj pf u v → Q u) : ∀ v, v < n → Q v := by
  have h0 : Q 0 := by
    have : ∀ m a, a ≤ m → a < n → Q a → Q 0 := by
      intro m
      induction m with
      | zero => intro a h1 _ h3; rw [show a = 0 by omega] at h3; exact h3
      | succ m ih =>
        intro a h1 h2 h3
        by_cases e : a = 0
        · subst e; exact h3
        · have := h a (by omega) h2
          exact ih (pf a) (by omega) (by omega) (hc a (pf a) h2 (by omega) h3 (.inr ⟨by omega, rfl⟩))
    exact this a a (Nat.le_refl _) ha hQ
  intro v
  induction v using Nat.strongRecOn with
  | _ v ih =>
    intro hv
    by_cases e : v = 0
    · subst e; exact h0
    · have := h v (by omega) hv
      exact hc (pf v) v (by omega) hv (ih _ this (by omega)) (.inl ⟨by omega, rfl⟩)
/-- How many places are behind a place. -/
def szF (pf : Nat → Nat) (n v : Nat) (f : Int) : Nat := (List.range n).countP fun x => decide (f < 0 ∨ dN pf n x v < dN pf n x f.toNat)
theorem countP_two {α : Type} {p q r : α → Bool} : ∀ {l : List α}, (∀ x ∈ l, p x = true → r x = true) → (∀ x ∈ l, q x = true → r x = true) → (∀ x ∈ l, ¬ (p x = true ∧ q x = true)) → l.countP p + l.countP q ≤ l.countP r
  | [], _, _, _ => by simp
  | a :: l, h1, h2, h3 => by
    have ih := countP_two (l := l) (fun x hx => h1 x (by simp [hx])) (fun x hx => h2 x (by simp [hx])) (fun x hx => h3 x (by simp [hx]))
    have a1 := h1 a (by simp)
    have a2 := h2 a (by simp)
    have a3 := h3 a (by simp)
    simp only [List.countP_cons]
    cases hp : p a <;> cases hq : q a <;> cases hr : r a <;> simp_all <;> omega
def FrOk (pf : Nat → Nat) (n v : Nat) (f : Int) : Prop := f < 0 ∨ ∃ u : Nat, f = u ∧ u < n ∧ Adj pf u v
theorem szF_pos {n v : Nat} {f : Int} (h : PfOk n pf) (hv : v < n) (hf : FrOk pf n v f) : 1 ≤ szF pf n v f := by
  refine List.countP_pos_iff.2 ⟨v, by simpa using hv, decide_eq_true ?_⟩
  rcases hf with hf | ⟨u, rfl, hu, ha⟩
  · exact .inl hf
  · refine .inr ?_
    rw [dN_self, Int.toNat_natCast]
    have : dN pf n v u ≠ 0 := fun e => by have := dN_zero h hv hu e; subst this; exact adj_self h hv ha
    omega
theorem szF_le (n v : Nat) (f : Int) : szF pf n v f ≤ n := by have := List.countP_le_length (p := fun x => decide (f < 0 ∨ dN pf n x v < dN pf n x f.toNat)) (l := List.range n); simpa [szF] using this
def szS (pf : Nat → Nat) (n v : Nat) : List Nat → Nat
  | [] => 0
  | u :: L => szF pf n u (v : Nat) + szS pf n v L
theorem szS_any {n v : Nat} (h : PfOk n pf) (hv : v < n) : ∀ {L : List Nat}, L.Nodup → (∀ u ∈ L, u < n ∧ Adj pf u v) → szS pf n v L ≤ (List.range n).countP fun x => decide (∃ u, u ∈ L ∧ dN pf n x u < dN pf n x v)
  | [], _, _ => Nat.zero_le _
  | u :: L, hnd, hL => by
    have hnc := List.nodup_cons.1 hnd
    have ih := szS_any h hv hnc.2 fun u hu => hL u (by simp [hu])
    obtain ⟨hu, hua⟩ := hL u (by simp)
    have h2 : szF pf n u (v : Nat) = (List.range n).countP fun x => decide (dN pf n x u < dN pf n x v) := by
      unfold szF; congr 1; funext x; rw [Int.toNat_natCast]; exact decide_eq_decide.2 ⟨fun h => h.resolve_left (by omega), .inr⟩
    have := countP_two (p := fun x => decide (dN pf n x u < dN pf n x v)) (q := fun x => decide (∃ u, u ∈ L ∧ dN pf n x u < dN pf n x v)) (r := fun x => decide (∃ w, w ∈ u :: L ∧ dN pf n x w < dN pf n x v)) (l := List.range n)
      (fun x _ hp => decide_eq_true ⟨u, by simp, of_decide_eq_true hp⟩)
      (fun x _ hq => by obtain ⟨w, hw, e⟩ := of_decide_eq_true hq; exact decide_eq_true ⟨w, by simp [hw], e⟩)
      (fun x hx hpq => by
        have e1 := of_decide_eq_true hpq.1
        obtain ⟨w, hw, e2⟩ := of_decide_eq_true hpq.2
        have hx' : x < n := by simpa using hx
        obtain ⟨hw1, hwa⟩ := hL w (by simp [hw])
        have d1 := dN_adj h hx' hu hv hua
        have d2 := dN_adj h hx' hw1 hv hwa
        have := dN_pred h hx' hv hu hw1 hua hwa (by omega) (by omega)
        subst this; exact hnc.1 hw)
    simp only [szS]; omega
/-- What is behind the neighbors is behind the place, and the place too. -/
theorem szS_lt {n v : Nat} {f : Int} (h : PfOk n pf) (hv : v < n) (hf : FrOk pf n v f) {L : List Nat} (hnd : L.Nodup) (hL : ∀ u ∈ L, u < n ∧ Adj pf u v ∧ (u : Int) ≠ f) : szS pf n v L + 1 ≤ szF pf n v f := by
  have h1 := szS_any h hv hnd fun u hu => ⟨(hL u hu).1, (hL u hu).2.1⟩
  have h2 : 1 ≤ (List.range n).countP fun x => decide (x = v) := List.countP_pos_iff.2 ⟨v, by simpa using hv, by simp⟩
  have h3 := countP_two (p := fun x => decide (∃ u, u ∈ L ∧ dN pf n x u < dN pf n x v)) (q := fun x => decide (x = v)) (r := fun x => decide (f < 0 ∨ dN pf n x v < dN pf n x f.toNat)) (l := List.range n)
    (fun x hx hp => by
      obtain ⟨u, hu, e⟩ := of_decide_eq_true hp
      have hx' : x < n := by simpa using hx
      obtain ⟨hu1, hua, huf⟩ := hL u hu
      refine decide_eq_true ?_
      rcases hf with hf | ⟨w, rfl, hw, hwa⟩
      · exact .inl hf
      · refine .inr ?_
        rw [Int.toNat_natCast]
        have d1 := dN_adj h hx' hu1 hv hua
        have d2 := dN_adj h hx' hw hv hwa
        rcases d2 with d2 | d2
        · omega
        · have := dN_pred h hx' hv hu1 hw hua hwa (by omega) (by omega)
          subst this; exact absurd rfl huf)
    (fun x hx hq => by
      have : x = v := of_decide_eq_true hq
      subst this
      refine decide_eq_true ?_
      rcases hf with hf | ⟨w, rfl, hw, hwa⟩
      · exact .inl hf
      · refine .inr ?_
        rw [dN_self, Int.toNat_natCast]
        have : dN pf n x w ≠ 0 := fun e => by have := dN_zero h hv hw e; subst this; exact adj_self h hv hwa
        omega)
    (fun x hx hpq => by
      obtain ⟨u, hu, e⟩ := of_decide_eq_true hpq.1
      have : x = v := of_decide_eq_true hpq.2
      subst this
      rw [dN_self] at e; omega)
  unfold szF; omega
end
end Go.Proofs.YtocgehoffdjijaaGreat
