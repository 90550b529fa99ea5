/- Plain law of TopSpanning: the taken streets as a graph. No program in sight. -/
import Derived.Test.YtocgehoffdjijaaGreatSU
import Derived.Test.YtocgehoffdjijaaGreatBQ
import Derived.Test.YtocgehoffdjijaaGreatBW
import Derived.Test.YtocgehoffdjijaaGreatBOr
namespace Go.Proofs.YtocgehoffdjijaaGreat
open Gv
set_option maxRecDepth 20000
theorem srtOrd {n : Nat} {S : List N3} (hS : NetOk n S) : OrdN n S (srtO S) := ⟨hS, fun i hi => by
  have : (srtO S).getD i 0 ∈ srtO S := by
    rw [List.getD_eq_getElem?_getD, List.getElem?_eq_getElem hi]; exact List.getElem_mem hi
  simpa using (srt_perm S).mem_iff.1 this⟩
/-- A street as an edge. -/
def edS (S : List N3) (k : Nat) : Int × Int := (((min (st S k).1 (st S k).2.1 : Nat) : Int), ((max (st S k).1 (st S k).2.1 : Nat) : Int))
def trL (S : List N3) (T : List Nat) : List (Int × Int) := T.map (edS S)
theorem trL_len (S : List N3) (T : List Nat) : (trL S T).length = T.length := by simp [trL]
theorem trL_get {S : List N3} {T : List Nat} {k : Nat} (hk : k < T.length) : Bg.ed (trL S T) k = edS S (T.getD k 0) := by
  unfold Bg.ed trL; simp [List.getD, hk]
/-- The streets of a tree, in any order. -/
structure TreeN (n : Nat) (S : List N3) (T : List Nat) : Prop where
  n2 : 2 ≤ n ∧ n ≤ 12
  len : T.length + 1 = n
  ok : ∀ k, k ∈ T → okS n (st S k)
  few : ∀ X : List Nat, (∀ v, v ∈ X → v < n) → X ≠ [] → T.countP (fun s => decide (inE S X s)) + 1 ≤ X.length
theorem tst_mem {n : Nat} {S : List N3} {O : List Nat} (h : OrdN n S O) : ∀ {k : Nat}, k ≤ O.length → ∀ s, s ∈ tst S O k → s < S.length
  | 0, _, s, hs => by cases hs
  | k + 1, hk, s, hs => by
    rw [tst_succ] at hs
    split at hs
    · rcases List.mem_append.1 hs with h1 | h1
      · exact tst_mem h (k := k) (by omega) s h1
      · rw [List.mem_singleton] at h1; rw [h1]; exact h.lt k (by omega)
    · exact tst_mem h (k := k) (by omega) s hs
theorem tree_of {n : Nat} {S : List N3} (hn : 2 ≤ n ∧ n ≤ 12) (hS : NetOk n S) (hl : Linked n S) {T : List Nat} (hT : T.Perm (tst S (srtO S) (srtO S).length)) : TreeN n S T := by
  have h := srtOrd hS
  refine ⟨hn, ?_, fun k hk => ?_, fun X hX h0 => ?_⟩
  · rw [hT.length_eq, tst_len]; exact cnt_all h (srt_perm S) hl
  · exact hS.ok k (tst_mem h (Nat.le_refl _) k (hT.mem_iff.1 hk))
  · rw [hT.countP_eq]; exact forest_lt h hX h0
section
variable {n : Nat} {S : List N3} {T : List Nat}
theorem getD_memT {k : Nat} (hk : k < T.length) : T.getD k 0 ∈ T := by
  rw [List.getD_eq_getElem?_getD, List.getElem?_eq_getElem hk]; exact List.getElem_mem hk
theorem TreeN.ed (h : TreeN n S T) {k : Nat} (hk : k < (trL S T).length) : 0 ≤ (Bg.ed (trL S T) k).1 ∧ (Bg.ed (trL S T) k).1 < (Bg.ed (trL S T) k).2 ∧ (Bg.ed (trL S T) k).2 < (n : Int) := by
  rw [trL_len] at hk
  rw [trL_get hk]
  obtain ⟨h1, h2, h3, _⟩ := h.ok _ (getD_memT hk)
  unfold edS
  refine ⟨?_, ?_, ?_⟩ <;> dsimp only <;> omega
theorem sumTo_cnt (p : Nat → Bool) (q : Nat → Prop) [DecidablePred q] : ∀ (T : List Nat) (m : Nat), m ≤ T.length → (∀ k, k < m → (q k ↔ p (T.getD k 0) = true)) → Bg.sumTo (fun k => if q k then 1 else 0) m = ((T.take m).countP p : Int)
  | T, 0, _, _ => by simp [Bg.sumTo]
  | T, m + 1, hm, h => by
    have ih := sumTo_cnt p q T m (by omega) fun k hk => h k (by omega)
    have hq := h m (by omega)
    rw [Bg.sumTo, ih, List.take_add_one, List.getElem?_eq_getElem (show m < T.length by omega), List.countP_append]
    have e : T.getD m 0 = T[m] := by simp [List.getD, show m < T.length by omega]
    rw [e] at hq
    by_cases c : q m
    · rw [if_pos c]
      have := hq.1 c
      simp [this]
    · rw [if_neg c]
      have : ¬ p T[m] = true := fun hh => c (hq.2 hh)
      simp [this]
/-- What the edges within a set count. -/
theorem TreeN.ins (_h : TreeN n S T) {X : List Int} (hr : ∀ v, v ∈ X → 0 ≤ v ∧ v < (n : Int)) : Bg.insM (trL S T) X = (T.countP (fun s => decide (inE S (X.map Int.toNat) s)) : Nat) := by
  have hm : ∀ a : Nat, a ∈ X.map Int.toNat ↔ (a : Int) ∈ X := fun a => by
    rw [List.mem_map]
    constructor
    · rintro ⟨v, hv, e⟩
      have := hr v hv
      rwa [show (a : Int) = v by omega]
    · intro ha; exact ⟨a, ha, by simp⟩
  unfold Bg.insM
  rw [trL_len]
  have := sumTo_cnt (fun s => decide (inE S (X.map Int.toNat) s)) (fun k => Bg.bothIn (trL S T) X k) T T.length (Nat.le_refl _) fun k hk => by
    unfold Bg.bothIn
    rw [trL_get hk, decide_eq_true_eq]
    unfold inE edS
    dsimp only
    rw [hm, hm]
    rcases Nat.le_total (st S (T.getD k 0)).1 (st S (T.getD k 0)).2.1 with h1 | h1
    · rw [Nat.min_eq_left h1, Nat.max_eq_right h1]
    · rw [Nat.min_eq_right h1, Nat.max_eq_left h1]; exact and_comm
  rw [List.take_length] at this
  exact this
theorem TreeN.sparse (h : TreeN n S T) {X : List Int} (hr : ∀ v, v ∈ X → 0 ≤ v ∧ v < (n : Int)) (h0 : X ≠ []) : Bg.insM (trL S T) X + 1 ≤ X.length := by
  rw [h.ins hr]
  have := h.few (X.map Int.toNat) (fun v hv => by
    obtain ⟨u, hu, rfl⟩ := List.mem_map.1 hv
    have := hr u hu
    omega) (by simpa using h0)
  rw [List.length_map] at this
  omega
theorem TreeN.dist (h : TreeN n S T) : ∀ k, k < (trL S T).length → ∀ j, j < k → Bg.ed (trL S T) j ≠ Bg.ed (trL S T) k := by
  intro k hk j hj e
  have hk' := hk
  have hek := h.ed hk
  rw [trL_len] at hk'
  obtain ⟨X, hX⟩ : ∃ X : List Int, X = [(Bg.ed (trL S T) k).1, (Bg.ed (trL S T) k).2] := ⟨_, rfl⟩
  have hs := h.sparse (X := X) (fun v hv => by rw [hX] at hv; simp only [List.mem_cons, List.not_mem_nil, or_false] at hv; omega) (by rw [hX]; simp)
  have hb : ∀ i, (i = j ∨ i = k) → Bg.bothIn (trL S T) X i := fun i hi => by
    unfold Bg.bothIn
    rcases hi with rfl | rfl
    · rw [e, hX]; simp
    · rw [hX]; simp
  have h2 : (2 : Int) ≤ Bg.insM (trL S T) X := by
    unfold Bg.insM
    have h3 := Bg.sumTo_le (n := (trL S T).length) (f := fun i => (if i = j then 1 else 0) + (if i = k then 1 else 0)) (g := fun i => if Bg.bothIn (trL S T) X i then 1 else 0) fun i _ => by
      by_cases e1 : i = j
      · rw [if_pos e1, if_neg (by omega), if_pos (hb i (.inl e1))]; decide
      · by_cases e2 : i = k
        · rw [if_neg e1, if_pos e2, if_pos (hb i (.inr e2))]; decide
        · rw [if_neg e1, if_neg e2]; split <;> decide
    have h4 : ∀ (a m : Nat), a < m → Bg.sumTo (fun i => if i = a then (1 : Int) else 0) m = 1 := fun a m ha => by
      have := Bg.sumTo_set (f := fun _ => 0) (g := fun i => if i = a then (1 : Int) else 0) (k := a) ha fun i hi _ => if_neg hi
      rw [Bg.sumTo_zero, if_pos rfl] at this
      omega
    rw [Bg.sumTo_add, h4 j _ (by omega), h4 k _ hk] at h3
    omega
  rw [hX] at hs
  simp only [List.length_cons, List.length_nil] at hs
  rw [hX] at h2
  omega
theorem TreeN.all (h : TreeN n S T) : ∀ k, k < (trL S T).length → (0 ≤ (Bg.ed (trL S T) k).1 ∧ (Bg.ed (trL S T) k).1 < (Bg.ed (trL S T) k).2 ∧ (Bg.ed (trL S T) k).2 < (n : Int)) ∧ ∀ j, j < k → Bg.ed (trL S T) j ≠ Bg.ed (trL S T) k := fun k hk => ⟨h.ed hk, h.dist k hk⟩
theorem isG_of {n : Nat} {L : List (Int × Int)} (hn : 1 ≤ n ∧ n ≤ 16) (hG : ∀ k, k < L.length → (0 ≤ (Bg.ed L k).1 ∧ (Bg.ed L k).1 < (Bg.ed L k).2 ∧ (Bg.ed L k).2 < (n : Int)) ∧ ∀ j, j < k → Bg.ed L j ≠ Bg.ed L k) : Bg.IsG (n : Int) L := by
  refine ⟨by omega, ?_, hG⟩
  have h1 := Bg.insM_pairs hG (Bg.allV_nodup n) fun v hv => Bg.allV_mem.1 hv
  rw [Bg.insM_all fun k hk => (hG k hk).1, Bg.allV_len] at h1
  rw [Int.mul_comm ((n : Int) - 1)] at h1
  omega
theorem TreeN.isG (h : TreeN n S T) : Bg.IsG (n : Int) (trL S T) := isG_of (by have := h.n2; omega) h.all
theorem TreeN.dens (h : TreeN n S T) {X : List Int} (hD : Bg.Dens (n : Int) (trL S T) X) : X.length = n ∧ Bg.dnum (trL S T) X = n - 1 ∧ Bg.dden (trL S T) X = n := by
  have hn := h.n2
  have hl := h.len
  have hpos := hD.pos
  have h1 := hD.best (Bg.allV n) (Bg.allV_nodup _) fun v hv => Bg.allV_mem.1 hv
  have hall : Bg.insM (trL S T) (Bg.allV n) = ((n - 1 : Nat) : Int) := by
    rw [Bg.insM_all fun k hk => h.ed hk, trL_len]; omega
  rw [hall, Bg.allV_len] at h1
  have h2 := h.sparse hD.rng (by rintro rfl; simp at hpos)
  have hXl := Bg.range_len n X hD.asc.nodup hD.rng
  have hX : X.length = n := by
    have h3 : Bg.insM (trL S T) X * (n : Int) ≤ ((X.length : Int) - 1) * n := Int.mul_le_mul_of_nonneg_right (by omega) (by omega)
    have e1 : ((n - 1 : Nat) : Int) = (n : Int) - 1 := by omega
    rw [e1, Int.sub_mul] at h1
    rw [Int.sub_mul] at h3
    have e2 : (n : Int) * (X.length : Int) = (X.length : Int) * n := Int.mul_comm ..
    omega
  have hmem : ∀ v, v ∈ X ↔ v ∈ Bg.allV n := fun v => ⟨fun hv => Bg.allV_mem.2 (hD.rng v hv), fun hv => by
    refine Decidable.byContradiction fun hn' => ?_
    have := Bg.sub_len (F := v :: X) (S := Bg.allV n) (List.nodup_cons.2 ⟨hn', hD.asc.nodup⟩) fun u hu => by
      rcases List.mem_cons.1 hu with rfl | hu
      · exact hv
      · exact Bg.allV_mem.2 (hD.rng u hu)
    rw [Bg.allV_len, List.length_cons] at this
    omega⟩
  have hins : Bg.insE (trL S T) X (trL S T).length = n - 1 := by
    have e1 := Bg.insE_insM (L := trL S T) (S := X)
    rw [Bg.insM_congr hmem, hall] at e1
    omega
  have hg : Nat.gcd (n - 1) n = 1 := by
    have : ∀ m, m < 13 → 2 ≤ m → Nat.gcd (m - 1) m = 1 := by decide
    exact this n (by omega) hn.1
  unfold Bg.dnum Bg.dden
  rw [hins, hX, hg]
  exact ⟨rfl, Nat.div_one _, Nat.div_one _⟩
theorem TreeN.high (h : TreeN n S T) {H pr : List Int} {r : Int} (hO : Bg.OriP (n : Int) (trL S T) H pr) (hr : Bg.IsHt H r) : r = 1 := by
  obtain ⟨⟨hl, hok⟩, b, hb, hpr⟩ := hO
  obtain ⟨h1, u, hu, hru⟩ := hr
  have hn := h.n2
  have hlen := h.len
  have hle : b ≤ 1 := by
    rcases hpr with ⟨rfl, _⟩ | ⟨_, _, hp, hrg, hlt⟩
    · omega
    · have h2 := h.sparse hrg (by rintro rfl; simp at hp)
      by_cases c : b ≤ 1
      · exact c
      · exfalso
        have h3 : 1 * (pr.length : Int) ≤ ((b : Int) - 1) * pr.length := Int.mul_le_mul_of_nonneg_right (by omega) (by omega)
        omega
  have hr1 := hb u hu
  have h0 : 0 < (trL S T).length := by rw [trL_len]; omega
  have he := h.ed h0
  have hH0 := hok 0 h0
  have hm : H.getD 0 0 ∈ H := Bg.getD_memI (by omega)
  have hc := Bg.cntH_pos hm
  have hr2 := h1 (H.getD 0 0).toNat (by rcases hH0 with e | e <;> rw [e] <;> omega)
  rw [Int.toNat_of_nonneg (by rcases hH0 with e | e <;> rw [e] <;> omega)] at hr2
  omega
/-- Whoever is at an edge has a core number. -/
theorem core_pos {n : Nat} {L : List (Int × Int)} (hG : ∀ k, k < L.length → 0 ≤ (Bg.ed L k).1 ∧ (Bg.ed L k).1 < (Bg.ed L k).2 ∧ (Bg.ed L k).2 < (n : Int)) (hi : ∀ v, v < n → ∃ k, k < L.length ∧ ((Bg.ed L k).1 = (v : Int) ∨ (Bg.ed L k).2 = (v : Int))) {v : Nat} (hv : v < n) : 1 ≤ (Bg.peC L n n).getD v 0 := by
  refine (Bg.core_iff hG (k := 1) (by decide) hv).2 ⟨fun u => decide (0 ≤ u ∧ u < (n : Int)), fun u hu => ?_, decide_eq_true (by omega)⟩
  have hu' := of_decide_eq_true hu
  refine ⟨hu', ?_⟩
  obtain ⟨k, hk, hk2⟩ := hi u.toNat (by omega)
  have hg := hG k hk
  have h1 := Bg.sumTo_le (n := L.length) (f := fun i => if i = k then (1 : Int) else 0) (g := fun i => if ((Bg.ed L i).1 = u ∧ decide (0 ≤ (Bg.ed L i).2 ∧ (Bg.ed L i).2 < (n : Int)) = true) ∨ ((Bg.ed L i).2 = u ∧ decide (0 ≤ (Bg.ed L i).1 ∧ (Bg.ed L i).1 < (n : Int)) = true) then 1 else 0) fun i _ => by
    by_cases e : i = k
    · subst e
      rw [if_pos rfl, if_pos]
      · exact Int.le_refl _
      · rcases hk2 with e | e
        · exact .inl ⟨by omega, decide_eq_true (by omega)⟩
        · exact .inr ⟨by omega, decide_eq_true (by omega)⟩
    · rw [if_neg e]; split <;> decide
  have h2 := Bg.sumTo_set (f := fun _ => 0) (g := fun i => if i = k then (1 : Int) else 0) (k := k) hk fun i hi _ => if_neg hi
  rw [Bg.sumTo_zero, if_pos rfl] at h2
  have h3 : Bg.nbP L (fun u => decide (0 ≤ u ∧ u < (n : Int))) u = Bg.sumTo (fun i => if ((Bg.ed L i).1 = u ∧ decide (0 ≤ (Bg.ed L i).2 ∧ (Bg.ed L i).2 < (n : Int)) = true) ∨ ((Bg.ed L i).2 = u ∧ decide (0 ≤ (Bg.ed L i).1 ∧ (Bg.ed L i).1 < (n : Int)) = true) then 1 else 0) L.length := rfl
  omega
theorem TreeN.inc (h : TreeN n S T) {v : Nat} (hv : v < n) : ∃ k, k < (trL S T).length ∧ ((Bg.ed (trL S T) k).1 = (v : Int) ∨ (Bg.ed (trL S T) k).2 = (v : Int)) := by
  refine Decidable.byContradiction fun hno => ?_
  have hn := h.n2
  have hlen := h.len
  have h1 := h.few ((List.range n).filter fun u => decide (u ≠ v)) (fun u hu => by simpa using (List.mem_filter.1 hu).1) (fun e => by
    have h2 : (if v = 0 then 1 else 0) ∈ (List.range n).filter fun u => decide (u ≠ v) := List.mem_filter.2 ⟨by simp; split <;> omega, decide_eq_true (by split <;> omega)⟩
    rw [e] at h2; cases h2)
  have h2 : T.countP (fun s => decide (inE S ((List.range n).filter fun u => decide (u ≠ v)) s)) = T.length := by
    refine List.countP_eq_length.2 fun s hs => decide_eq_true ?_
    obtain ⟨o1, o2, o3, _⟩ := h.ok s hs
    obtain ⟨k, hk, e⟩ := List.getElem_of_mem hs
    have hk' : T.getD k 0 = s := by simp [List.getD, hk, e]
    have hne : (st S s).1 ≠ v ∧ (st S s).2.1 ≠ v := by
      refine ⟨fun e1 => hno ⟨k, by rw [trL_len]; exact hk, ?_⟩, fun e1 => hno ⟨k, by rw [trL_len]; exact hk, ?_⟩⟩
      · rw [trL_get hk, hk']; unfold edS; dsimp only; omega
      · rw [trL_get hk, hk']; unfold edS; dsimp only; omega
    exact ⟨List.mem_filter.2 ⟨by simpa using o1, decide_eq_true hne.1⟩, List.mem_filter.2 ⟨by simpa using o2, decide_eq_true hne.2⟩⟩
  have h3 : ((List.range n).filter fun u => decide (u ≠ v)).length + 1 ≤ n := by
    have h4 := countP_2 (l := List.range n) (p := fun u => decide (u ≠ v)) (q := fun u => decide (u = v)) (r := fun _ => true) (fun _ _ _ => rfl) (fun _ _ _ => rfl) fun u _ hpq => (of_decide_eq_true hpq.1) (of_decide_eq_true hpq.2)
    have h5 : 1 ≤ (List.range n).countP fun u => decide (u = v) := List.countP_pos_iff.2 ⟨v, by simpa using hv, by simp⟩
    have h6 := List.countP_le_length (p := fun _ => true) (l := List.range n)
    rw [List.length_range] at h6
    rw [List.countP_eq_length_filter] at h4
    omega
  omega
theorem TreeN.core (h : TreeN n S T) {X : List Int} (hD : Bg.Dens (n : Int) (trL S T) X) {v : Nat} (hv : v < n) : (Bg.peC (trL S T) n n).getD v 0 = 1 := by
  have h1 := core_pos (n := n) (fun k hk => h.ed hk) (fun v hv => h.inc hv) hv
  have h2 := Bg.core_half (n := n) (fun k hk => h.ed hk) (by omega) hD
  have h3 := h.sparse hD.rng (by have := hD.pos; rintro rfl; simp at this)
  have h4 := (Bg.peC_le (L := trL S T) (n := n) hv).2
  have hpos := hD.pos
  by_cases c : Bg.peM (trL S T) n n ≤ 1
  · omega
  · exfalso
    have h5 : 2 * (X.length : Int) ≤ Bg.peM (trL S T) n n * X.length := Int.mul_le_mul_of_nonneg_right (by omega) (by omega)
    omega
end
end Go.Proofs.YtocgehoffdjijaaGreat
