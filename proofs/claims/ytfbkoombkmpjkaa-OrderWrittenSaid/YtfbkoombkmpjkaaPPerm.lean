/- Plain law: sums over the places of an order; the inverse order has as many inversions, and as many cycles. No program in sight. -/
import Derived.Test.YtfbkoombkmpjkaaPOrd
namespace Go.Proofs.Ytfbkoombkmpjkaa
open CY
namespace PO
def sm (f : Nat → Int) : Nat → Int
  | 0 => 0
  | n + 1 => sm f n + f n
theorem sm_congr {f g : Nat → Int} : ∀ {n : Nat}, (∀ i, i < n → f i = g i) → sm f n = sm g n
  | 0, _ => rfl
  | n + 1, h => by simp only [sm]; rw [sm_congr fun i hi => h i (by omega), h n (by omega)]
theorem sm_add {f g : Nat → Int} : ∀ {n : Nat}, sm (fun k => f k + g k) n = sm f n + sm g n
  | 0 => rfl
  | n + 1 => by simp only [sm]; rw [sm_add]; omega
theorem sm_zero : ∀ {n : Nat}, sm (fun _ => 0) n = 0
  | 0 => rfl
  | n + 1 => by simp only [sm]; rw [sm_zero]; rfl
theorem sm_swap {F : Nat → Nat → Int} {m : Nat} : ∀ {n : Nat}, sm (fun i => sm (F i) m) n = sm (fun j => sm (fun i => F i j) n) m
  | 0 => by simp only [sm]; exact sm_zero.symm
  | n + 1 => by
    show sm (fun i => sm (F i) m) n + sm (F n) m = _
    rw [sm_swap (n := n), ← sm_add]
    rfl
theorem sm_skip {g : Nat → Int} {j0 : Nat} : ∀ {n : Nat}, j0 ≤ n → sm g (n + 1) = sm (fun j => if j < j0 then g j else g (j + 1)) n + g j0
  | 0, h => by
    have : j0 = 0 := by omega
    subst this
    simp [sm]
  | n + 1, h => by
    show sm g (n + 1) + g (n + 1) = (sm (fun j => if j < j0 then g j else g (j + 1)) n + (if n < j0 then g n else g (n + 1))) + g j0
    by_cases e : j0 = n + 1
    · subst e
      rw [if_pos (by omega)]
      rw [sm_congr (f := fun j => if j < n + 1 then g j else g (j + 1)) (g := g) fun i hi => if_pos (by omega)]
      show sm g n + g n + _ = _
      omega
    · rw [sm_skip (n := n) (j0 := j0) (by omega), if_neg (by omega)]
      omega
theorem sm_perm : ∀ {n : Nat} {p : Nat → Nat} {f : Nat → Int}, (∀ j, j < n → p j < n) → (∀ a b, a < b → b < n → p a ≠ p b) → sm (fun i => f (p i)) n = sm f n
  | 0, _, _, _, _ => rfl
  | n + 1, p, f, h1, h2 => by
    by_cases hx : ∃ j, j < n + 1 ∧ p j = n
    · obtain ⟨j0, hj, hp⟩ := hx
      rw [sm_skip (j0 := j0) (by omega)]
      have := sm_perm (n := n) (p := fun j => if j < j0 then p j else p (j + 1)) (f := f) (fun j hjm => ?_) (fun a b hab hb => ?_)
      · show _ = sm f n + f n
        rw [← this, hp]
        congr 1
        exact sm_congr fun i _ => by split <;> rfl
      · split
        · have h3 := h1 j (by omega)
          have := h2 j j0 (by omega) hj
          omega
        · have h3 := h1 (j + 1) (by omega)
          have := h2 j0 (j + 1) (by omega) (by omega)
          omega
      · split
        · split
          · exact h2 a b hab (by omega)
          · exact h2 a (b + 1) (by omega) (by omega)
        · rw [if_neg (by omega)]
          exact h2 (a + 1) (b + 1) (by omega) (by omega)
    · have := pig n (n + 1) p (fun j hj => by
        have := h1 j hj
        have : p j ≠ n := fun e => hx ⟨j, hj, e⟩
        omega) h2
      omega
/-- M is the inverse of L. -/
def IsInv (L M : List Int) : Prop := M.length = L.length ∧ ∀ i, i < L.length → M.getD (nxt L i) 0 = (i : Int) + 1
theorem surj {L : List Int} (h : Ok L) {x : Nat} (hx : x < L.length) : ∃ i, i < L.length ∧ nxt L i = x := by
  apply Classical.byContradiction
  intro hne
  have hne' : ∀ i, i < L.length → nxt L i ≠ x := fun i hi e => hne ⟨i, hi, e⟩
  have h1 := pig (L.length - 1) L.length (fun j => if nxt L j < x then nxt L j else nxt L j - 1) (fun j hj => by
    have := (h.nxt_lt hj).1
    have := hne' j hj
    show (if nxt L j < x then nxt L j else nxt L j - 1) < L.length - 1
    split <;> omega) (fun a b hab hb => by
    have h3 := hne' a (by omega)
    have h4 := hne' b hb
    have h5 : nxt L a ≠ nxt L b := fun e => by have := h.nxt_inj (by omega) hb e; omega
    show (if nxt L a < x then nxt L a else nxt L a - 1) ≠ (if nxt L b < x then nxt L b else nxt L b - 1)
    split <;> split <;> omega)
  omega
section
variable {L M : List Int}
theorem list_ext {A B : List Int} (h : A.length = B.length) (h2 : ∀ i, i < A.length → A.getD i 0 = B.getD i 0) : A = B := by
  refine List.ext_getElem h fun i h1 h3 => ?_
  have := h2 i h1
  simp only [List.getD, List.getElem?_eq_getElem h1, List.getElem?_eq_getElem h3, Option.getD_some] at this
  exact this
theorem IsInv.uniq {M' : List Int} (hL : Ok L) (h : IsInv L M) (h' : IsInv L M') : M = M' := by
  refine list_ext (by rw [h.1, h'.1]) fun x hx => ?_
  obtain ⟨i, hi, rfl⟩ := surj hL (x := x) (by rw [← h.1]; exact hx)
  rw [h.2 i hi, h'.2 i hi]
theorem IsInv.nxt_nxt (h : IsInv L M) {i : Nat} (hi : i < L.length) : nxt M (nxt L i) = i := by
  show (M.getD (nxt L i) 0 - 1).toNat = i
  rw [h.2 i hi]; omega
theorem IsInv.ok (hL : Ok L) (h : IsInv L M) : Ok M where
  rng x hx := by
    obtain ⟨i, hi, rfl⟩ := surj hL (x := x) (by rw [← h.1]; exact hx)
    rw [h.2 i hi, h.1]; omega
  inj a b hba ha e := by
    obtain ⟨i, hi, rfl⟩ := surj hL (x := a) (by rw [← h.1]; exact ha)
    obtain ⟨j, hj, rfl⟩ := surj hL (x := b) (by rw [← h.1]; omega)
    rw [h.2 i hi, h.2 j hj] at e
    have : i = j := by omega
    subst this
    omega
theorem IsInv.symm (hL : Ok L) (h : IsInv L M) : IsInv M L := ⟨h.1.symm, fun x hx => by
  obtain ⟨i, hi, rfl⟩ := surj hL (x := x) (by rw [← h.1]; exact hx)
  rw [h.nxt_nxt hi, (hL.nxt_lt hi).2]⟩
theorem ord_of (h : Ok L) (hl : L.length ≤ 12) : IsOrd L := ⟨hl, fun i hi => ⟨h.rng i hi, fun k hk => h.inj i k hk hi⟩⟩
theorem IsInv.ord (hL : IsOrd L) (h : IsInv L M) : IsOrd M := ord_of (h.ok hL.ok) (by rw [h.1]; exact hL.1)
theorem cntB_sm {i : Nat} : ∀ {n : Nat}, cntB L i n = sm (fun j => if i < j ∧ L.getD j 0 < L.getD i 0 then 1 else 0) n
  | 0 => rfl
  | n + 1 => by simp only [cntB, sm]; rw [cntB_sm]
theorem invs_sm : ∀ {k : Nat}, invs L k = sm (fun i => sm (fun j => if i < j ∧ L.getD j 0 < L.getD i 0 then 1 else 0) L.length) k
  | 0 => rfl
  | k + 1 => by simp only [invs, sm]; rw [invs_sm, cntB_sm]
theorem okp1 (hL : Ok L) : ∀ j, j < L.length → nxt L j < L.length := fun _ hj => (hL.nxt_lt hj).1
theorem okp2 (hL : Ok L) : ∀ a b, a < b → b < L.length → nxt L a ≠ nxt L b := fun a b hab hb e => by have := hL.nxt_inj (by omega) hb e; omega
theorem IsInv.invs (hL : Ok L) (h : IsInv L M) : invs M M.length = invs L L.length := by
  rw [invs_sm, invs_sm, h.1]
  rw [← sm_perm (p := nxt L) (okp1 hL) (okp2 hL)]
  rw [sm_congr (g := fun i => sm (fun j => if j < i ∧ L.getD i 0 < L.getD j 0 then 1 else 0) L.length) fun i hi => ?_]
  · rw [sm_swap]
  · rw [← sm_perm (p := nxt L) (okp1 hL) (okp2 hL)]
    refine sm_congr fun j hj => ?_
    have h1 := h.2 i hi
    have h2 := h.2 j hj
    have h3 := (hL.nxt_lt hi).2
    have h4 := (hL.nxt_lt hj).2
    rw [h1, h2]
    by_cases c : j < i ∧ L.getD i 0 < L.getD j 0
    · rw [if_pos c, if_pos (by omega)]
    · rw [if_neg c, if_neg (by omega)]
/-- Every way comes back. -/
theorem back (hL : Ok L) {i : Nat} (hi : i < L.length) : ∃ m, it L i (m + 1) = i ∧ ∀ j, 1 ≤ j → j ≤ m → it L i j ≠ i := by
  have hex : ∃ m, it L i (m + 1) = i := by
    apply Classical.byContradiction
    intro hne
    have := hL.it_len hi (m := L.length) fun j h1 _ e => hne ⟨j - 1, by rw [show j - 1 + 1 = j by omega]; exact e⟩
    omega
  obtain ⟨m, hm⟩ := hex
  have : ∀ k, it L i (k + 1) = i → ∃ m, it L i (m + 1) = i ∧ ∀ j, 1 ≤ j → j ≤ m → it L i j ≠ i := by
    intro k
    induction k using Nat.strongRecOn with
    | _ k ih =>
      intro hk
      by_cases hc : ∀ j, 1 ≤ j → j ≤ k → it L i j ≠ i
      · exact ⟨k, hk, hc⟩
      · have : ∃ j, 1 ≤ j ∧ j ≤ k ∧ it L i j = i := by
          apply Classical.byContradiction
          intro hn
          exact hc fun j h1 h2 h3 => hn ⟨j, h1, h2, h3⟩
        obtain ⟨j, h1, h2, h3⟩ := this
        exact ih (j - 1) (by omega) (by rw [show j - 1 + 1 = j by omega]; exact h3)
  exact this m hm
theorem it_add {i a : Nat} : ∀ {b : Nat}, it L i (a + b) = it L (it L i a) b
  | 0 => rfl
  | b + 1 => by show nxt L (it L i (a + b)) = nxt L _; rw [it_add]
theorem it_per {i p : Nat} (h : it L i p = i) : ∀ {q : Nat}, it L i (p * q) = i
  | 0 => rfl
  | q + 1 => by rw [Nat.mul_succ, it_add, it_per h, h]
/-- A place is on top exactly if no place on its way is beyond it. -/
theorem top_iff (hL : Ok L) {i : Nat} (hi : i < L.length) : top L i ↔ ∀ m, it L i m ≤ i := by
  obtain ⟨m, hm, hne⟩ := back hL hi
  rw [top_of hL hi hne hm]
  constructor
  · intro h k
    have : it L i k = it L i (k % (m + 1)) := by
      conv => lhs; rw [← Nat.div_add_mod k (m + 1)]
      rw [it_add, it_per hm]
    rw [this]
    have hlt := Nat.mod_lt k (show m + 1 > 0 by omega)
    by_cases h0 : k % (m + 1) = 0
    · rw [h0]; exact Nat.le_refl _
    · exact Nat.le_of_lt (h _ (by omega) (by omega))
  · intro h j h1 h2
    have := h j
    have := hne j h1 h2
    omega
theorem IsInv.it_back (hL : Ok L) (h : IsInv L M) {i : Nat} (hi : i < L.length) : ∀ {b a : Nat}, it M (it L i (a + b)) b = it L i a
  | 0, a => rfl
  | b + 1, a => by
    show nxt M (it M (it L i (a + (b + 1))) b) = _
    rw [show a + (b + 1) = (a + 1) + b by omega, IsInv.it_back hL h hi (b := b) (a := a + 1)]
    show nxt M (nxt L (it L i a)) = _
    rw [h.nxt_nxt (hL.it_lt hi a)]
theorem IsInv.top_of (hL : Ok L) (h : IsInv L M) {i : Nat} (hi : i < L.length) (ht : top L i) : top M i := by
  have h1 := (top_iff hL hi).1 ht
  rw [top_iff (h.ok hL) (by rw [h.1]; exact hi)]
  intro b
  obtain ⟨m, hm, _⟩ := back hL hi
  have h2 := it_per hm (q := b)
  have h3 := IsInv.it_back hL h hi (b := b) (a := (m + 1) * b - b)
  have h4 : b ≤ (m + 1) * b := Nat.le_mul_of_pos_left _ (by omega)
  rw [show (m + 1) * b - b + b = (m + 1) * b by omega, h2] at h3
  rw [h3]
  exact h1 _
theorem IsInv.top_iff (hL : Ok L) (h : IsInv L M) {i : Nat} (hi : i < L.length) : top M i ↔ top L i :=
  ⟨fun ht => IsInv.top_of (h.ok hL) (h.symm hL) (by rw [h.1]; exact hi) ht, h.top_of hL hi⟩
theorem cycs_len_congr : ∀ {n : Nat}, (∀ i, i < n → (top M i ↔ top L i)) → (cycs M n).length = (cycs L n).length
  | 0, _ => rfl
  | n + 1, h => by
    have h1 := h n (by omega)
    simp only [cycs, List.length_append]
    rw [cycs_len_congr fun i hi => h i (by omega)]
    by_cases c : top L n
    · rw [if_pos c, if_pos (h1.2 c)]; rfl
    · rw [if_neg c, if_neg fun e => c (h1.1 e)]
theorem IsInv.cycs (hL : Ok L) (h : IsInv L M) : (cycs M M.length).length = (cycs L L.length).length := by
  rw [h.1]
  exact cycs_len_congr fun i hi => h.top_iff hL hi
end
end PO
end Go.Proofs.Ytfbkoombkmpjkaa
