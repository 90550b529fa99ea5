/- Plain law: the inverses of an order and of its second order have the same descents. No program in sight. -/
import Derived.Test.YtfbkoombkmpjkaaPFoata2
namespace Go.Proofs.Ytfbkoombkmpjkaa
open CY PO RW MD
namespace FO
theorem sub_both : ∀ {L : List Int}, L.Nodup → ∀ {u v : Int}, u ≠ v → [u, v].Sublist L → [v, u].Sublist L → False
  | [], _, u, v, _, h, _ => by cases h
  | x :: L, hn, u, v, hne, h1, h2 => by
    rw [List.nodup_cons] at hn
    cases h1 with
    | cons _ h1 =>
      cases h2 with
      | cons _ h2 => exact sub_both hn.2 hne h1 h2
      | cons_cons _ h2 => exact hn.1 (h1.subset (by simp))
    | cons_cons _ h1 =>
      cases h2 with
      | cons _ h2 => exact hn.1 (h2.subset (by simp))
      | cons_cons _ h2 => exact hne rfl
theorem sub_of {L : List Int} {a b : Nat} (hab : a < b) (hb : b < L.length) : [L.getD a 0, L.getD b 0].Sublist L := by
  have h1 : L.drop a = L.getD a 0 :: L.drop (a + 1) := drop_cons' (by omega)
  refine List.Sublist.trans ?_ (List.drop_sublist a L)
  rw [h1]
  refine List.Sublist.cons_cons _ (List.singleton_sublist.2 ?_)
  have : L.getD b 0 = (L.drop (a + 1))[b - (a + 1)]'(by simp; omega) := by
    simp only [List.getElem_drop]
    simp [List.getD, hb, show a + 1 + (b - (a + 1)) = b by omega]
  rw [this]
  exact List.getElem_mem _
theorem sub_iff {L : List Int} (hn : L.Nodup) {a b : Nat} (ha : a < L.length) (hb : b < L.length) (hne : L.getD a 0 ≠ L.getD b 0) : [L.getD a 0, L.getD b 0].Sublist L ↔ a < b := by
  constructor
  · intro h
    rcases Nat.lt_trichotomy a b with h1 | h1 | h1
    · exact h1
    · subst h1; exact absurd rfl hne
    · exact (sub_both hn hne h (sub_of h1 ha)).elim
  · intro h; exact sub_of h hb
theorem inv_des {L M : List Int} (hL : Ok L) (h : IsInv L M) {i : Nat} (h1 : 1 ≤ i) (hi : i < L.length) : M.getD i 0 < M.getD (i - 1) 0 ↔ [(i : Int) + 1, (i : Int)].Sublist L := by
  have hM := h.ok hL
  have hs := h.symm hL
  have ea := hs.2 i (by rw [h.1]; exact hi)
  have eb := hs.2 (i - 1) (by rw [h.1]; omega)
  have la := hM.nxt_lt (i := i) (by rw [h.1]; exact hi)
  have lb := hM.nxt_lt (i := i - 1) (by rw [h.1]; omega)
  rw [h.1] at la lb
  have := sub_iff (MD.ok_nodup hL) (a := nxt M i) (b := nxt M (i - 1)) la.1 lb.1 (by rw [ea, eb]; omega)
  rw [ea, eb, show ((i - 1 : Nat) : Int) + 1 = i by omega] at this
  rw [this]
  omega
theorem dsc_congr {M M' : List Int} : ∀ {n : Nat}, (∀ i, 1 ≤ i → i < n → (M.getD i 0 < M.getD (i - 1) 0 ↔ M'.getD i 0 < M'.getD (i - 1) 0)) → dsc M n = dsc M' n
  | 0, _ => rfl
  | n + 1, h => by
    simp only [dsc]
    rw [dsc_congr fun i a b => h i a (by omega)]
    by_cases h1 : 1 ≤ n
    · have := h n h1 (by omega)
      by_cases c : M.getD n 0 < M.getD (n - 1) 0
      · rw [if_pos ⟨h1, c⟩, if_pos ⟨h1, this.1 c⟩]
      · rw [if_neg fun h => c h.2, if_neg fun h => c (this.2 h.2)]
    · rw [if_neg fun h => h1 h.1, if_neg fun h => h1 h.1]
theorem sub_filter {L : List Int} {u v : Int} {q : Int → Bool} (hu : q u = true) (hv : q v = true) : [u, v].Sublist L ↔ [u, v].Sublist (L.filter q) := by
  constructor
  · intro h
    have := h.filter q
    simpa [hu, hv] using this
  · intro h; exact h.trans List.filter_sublist
/-- The inverses of both have the same descents. -/
theorem sec_des {L : List Int} (hL : IsOrd L) : dsc (invK L L.length) (invK L L.length).length = dsc (invK (sec L L.length) (sec L L.length).length) (invK (sec L L.length) (sec L L.length).length).length := by
  have hS := sec_ord hL
  have hsl := sec_len (L := L) (k := L.length)
  have h1 := invK_inv hL.ok
  have h2 := invK_inv hS.ok
  rw [invK_len, invK_len, hsl]
  rw [hsl] at h2
  refine dsc_congr fun i hi1 hi => ?_
  rw [inv_des hL.ok h1 hi1 hi, inv_des hS.ok h2 hi1 (by omega)]
  have hf := sec_filter (MD.ok_nodup hL.ok) (i : Int) (Nat.le_refl L.length)
  rw [List.take_length] at hf
  rw [sub_filter (L := L) (q := fun x => x == (i : Int) || x == (i : Int) + 1) (by simp) (by simp), ← hf, ← sub_filter (by simp) (by simp)]
theorem sec_maj {L : List Int} : invs (sec L L.length) (sec L L.length).length = sumI (dsc L L.length) := by
  rw [← sum_tbl, tbl_tb, sec_inv (Nat.le_refl _)]
end FO
end Go.Proofs.Ytfbkoombkmpjkaa
