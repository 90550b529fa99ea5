/- Plain law: the items are ascending; an order and its reverse. No program in sight. -/
import Derived.Test.YtfbkoombkmpjkaaPMk
namespace Go.Proofs.Ytfbkoombkmpjkaa
open CY PO RW
namespace MD
def lx : List Int → List Int → Prop
  | a :: A, b :: B => a < b ∨ (a = b ∧ lx A B)
  | _, _ => False
theorem lx_at : ∀ {A B : List Int}, lx A B → ∃ i, i < A.length ∧ i < B.length ∧ (∀ j, j < i → A.getD j 0 = B.getD j 0) ∧ A.getD i 0 < B.getD i 0
  | [], _, h => by cases h
  | a :: A, [], h => by cases h
  | a :: A, b :: B, h => by
    rcases h with h | ⟨rfl, h⟩
    · exact ⟨0, by simp, by simp, fun j hj => by omega, by simpa using h⟩
    · obtain ⟨i, h1, h2, h3, h4⟩ := lx_at h
      refine ⟨i + 1, by simp; omega, by simp; omega, fun j hj => ?_, by simpa using h4⟩
      cases j with
      | zero => rfl
      | succ j => simpa using h3 j (by omega)
theorem tk_lx : ∀ {m : Nat} {k : Int}, 0 ≤ k → k + 1 < fac m → lx (tk m k) (tk m (k + 1))
  | 0, k, h0, h1 => by simp [fac] at h1; omega
  | m + 1, k, h0, h1 => by
    have hp : (0 : Int) < fac m := by have := fac_pos m; omega
    have e1 := Int.mul_ediv_add_emod k (fac m)
    have e2 := Int.mul_ediv_add_emod (k + 1) (fac m)
    have r1 := Int.emod_nonneg k (show (fac m : Int) ≠ 0 by omega)
    have r2 := Int.emod_lt_of_pos k hp
    by_cases c : k % fac m + 1 < fac m
    · right
      have q : (k + 1) / fac m = k / fac m := by
        have : k + 1 = (k % fac m + 1) + k / fac m * fac m := by
          have := Int.mul_comm (fac m : Int) (k / fac m)
          omega
        rw [this, Int.add_mul_ediv_right _ _ (by omega), Int.ediv_eq_zero_of_lt (by omega) c]; omega
      have r : (k + 1) % fac m = k % fac m + 1 := by rw [q] at e2; omega
      refine ⟨q.symm, ?_⟩
      rw [r]
      exact tk_lx r1 c
    · left
      have hr : k % fac m + 1 = fac m := by omega
      have : k + 1 = 0 + (k / fac m + 1) * fac m := by
        have := Int.mul_comm (fac m : Int) (k / fac m)
        rw [Int.add_mul, Int.one_mul]
        omega
      rw [this, Int.add_mul_ediv_right _ _ (by omega), Int.ediv_eq_zero_of_lt (by omega) hp]; omega
theorem asc_lt {l : List Int} (h : Asc l) {a b : Nat} (hab : a < b) (hb : b < l.length) : l.getD a 0 < l.getD b 0 := by
  have := (List.pairwise_iff_getElem.1 h) a b (by omega) hb hab
  simpa [List.getD, hb, show a < l.length by omega] using this
theorem mk_lx : ∀ {t t' l : List Int}, okT t → okT t' → Asc l → l.length = t.length → l.length = t'.length → lx t t' → lx (mk t l) (mk t' l)
  | [], _, _, _, _, _, _, _, h => by cases h
  | a :: t, [], _, _, _, _, _, _, h => by cases h
  | a :: t, b :: t', l, ⟨⟨a0, a1⟩, ht⟩, ⟨⟨b0, b1⟩, ht'⟩, hs, hl, hl', h => by
    simp only [List.length_cons] at hl hl'
    simp only [mk, lx]
    rcases h with h | ⟨rfl, h⟩
    · left
      exact asc_lt hs (by omega) (by omega)
    · right
      refine ⟨rfl, mk_lx ht ht' (hs.sublist (List.eraseIdx_sublist l _)) ?_ ?_ h⟩
      · rw [List.length_eraseIdx_of_lt (by omega)]; omega
      · rw [List.length_eraseIdx_of_lt (by omega)]; omega
theorem itm_mk {n : Nat} {k : Int} : itm n k = mk (tk n k) (iota n) := by
  unfold itm
  have := made_eq (t := tk n k)
  rw [tk_len] at this
  exact this
theorem itm_lx {n : Nat} {k : Int} (h0 : 0 ≤ k) (h1 : k + 1 < fac n) : lx (itm n k) (itm n (k + 1)) := by
  rw [itm_mk, itm_mk]
  exact mk_lx (tk_ok h0 (by omega)) (tk_ok (by omega) h1) iota_asc (by rw [iota_len, tk_len]) (by rw [iota_len, tk_len]) (tk_lx h0 h1)
theorem tk_last : ∀ {m : Nat}, sumI (tk m ((fac m : Int) - 1)) = mst m
  | 0 => rfl
  | m + 1 => by
    have hp : (0 : Int) < fac m := by have := fac_pos m; omega
    have e : (fac (m + 1) : Int) - 1 = ((fac m : Int) - 1) + (m : Int) * fac m := by rw [fac_succ, Int.add_mul, Int.one_mul]; omega
    simp only [tk, sumI, mst]
    rw [e, Int.add_mul_ediv_right _ _ (by omega), Int.ediv_eq_zero_of_lt (by omega) (by omega), Int.add_mul_emod_self_right, Int.emod_eq_of_lt (by omega) (by omega), tk_last]
    push_cast; omega
def high (x : Int) (l : List Int) : Nat := l.countP fun y => decide (x < y)
theorem low_high {x : Int} : ∀ {l : List Int}, (∀ y ∈ l, y ≠ x) → low x l + high x l = l.length
  | [], _ => rfl
  | y :: l, h => by
    have ih := low_high (x := x) (l := l) fun z hz => h z (by simp [hz])
    have hy := h y (by simp)
    unfold low high at *
    simp only [List.countP_cons, List.length_cons]
    by_cases c : y < x
    · have : ¬ x < y := by omega
      simp only [c, this, decide_true, decide_false, if_true, Bool.false_eq_true, if_false]; omega
    · have : x < y := by omega
      simp only [c, this, decide_true, decide_false, if_true, Bool.false_eq_true, if_false]; omega
theorem tb_snoc {x : Int} : ∀ {l : List Int}, sumI (tb (l ++ [x])) = sumI (tb l) + high x l
  | [] => rfl
  | y :: l => by
    simp only [List.cons_append, tb, sumI]
    rw [tb_snoc, low_append]
    unfold high
    simp only [List.countP_cons]
    by_cases c : x < y
    · have : low y [x] = 1 := by unfold low; simp [c]
      rw [this, if_pos (by simpa using c)]; push_cast; omega
    · have : low y [x] = 0 := by unfold low; simp [c]
      rw [this, if_neg (by simpa using c)]; push_cast; omega
theorem tb_rev : ∀ {l : List Int}, l.Nodup → sumI (tb l) + sumI (tb l.reverse) = mst l.length
  | [], _ => rfl
  | x :: l, h => by
    rw [List.nodup_cons] at h
    have ih := tb_rev h.2
    have hl := low_high (x := x) (l := l) fun y hy e => h.1 (e ▸ hy)
    rw [List.reverse_cons, tb_snoc]
    have hh : high x l.reverse = high x l := by unfold high; exact (List.reverse_perm l).countP_eq _
    rw [hh]
    simp only [tb, sumI, List.length_cons, mst]
    push_cast; omega
theorem ok_nodup {L : List Int} (h : Ok L) : L.Nodup := by
  rw [List.nodup_iff_pairwise_ne, List.pairwise_iff_getElem]
  intro i j hi hj hij e
  have := h.inj j i hij hj
  simp only [List.getD, List.getElem?_eq_getElem hi, List.getElem?_eq_getElem hj, Option.getD_some] at this
  exact this e
theorem rev_ord {L : List Int} (h : IsOrd L) : IsOrd L.reverse := by
  refine ord_of (perm_ok ?_) (by simpa using h.1)
  rw [List.length_reverse]
  exact (List.reverse_perm L).trans (ok_perm h.ok)
theorem rev_invs {L : List Int} (h : Ok L) : invs L L.length + invs L.reverse L.reverse.length = mst L.length := by
  rw [← sum_tbl, ← sum_tbl, tbl_tb, tbl_tb]
  exact tb_rev (ok_nodup h)
theorem dsc_sm {L : List Int} : ∀ {n : Nat}, ((dsc L n).length : Int) = sm (fun i => if 1 ≤ i ∧ L.getD i 0 < L.getD (i - 1) 0 then 1 else 0) n
  | 0 => rfl
  | n + 1 => by
    simp only [dsc, sm, List.length_append]
    rw [← dsc_sm]
    push_cast
    congr 1
    split <;> rfl
theorem rev_at {L : List Int} {i : Nat} (h : i < L.length) : L.reverse.getD i 0 = L.getD (L.length - 1 - i) 0 := by
  simp [List.getD, h, show L.length - 1 - i < L.length by omega]
theorem sm_pos : ∀ {n : Nat}, sm (fun i => if 1 ≤ i then 1 else 0) (n + 1) = n
  | 0 => by simp [sm]
  | n + 1 => by
    show sm _ (n + 1) + (if 1 ≤ n + 1 then (1 : Int) else 0) = _
    rw [sm_pos, if_pos (by omega)]; push_cast; rfl
theorem rev_dsc {L : List Int} (h : Ok L) (h0 : 0 < L.length) : ((dsc L L.length).length : Int) + (dsc L.reverse L.reverse.length).length = (L.length : Int) - 1 := by
  rw [dsc_sm, dsc_sm, List.length_reverse]
  rw [← sm_perm (p := fun i => if i = 0 then 0 else L.length - i) (f := fun i => if 1 ≤ i ∧ L.reverse.getD i 0 < L.reverse.getD (i - 1) 0 then 1 else 0) (fun j hj => by split <;> omega) (fun a b hab hb => by split <;> split <;> omega)]
  rw [← sm_add]
  obtain ⟨n, hn⟩ : ∃ n, L.length = n + 1 := ⟨L.length - 1, by omega⟩
  rw [show (L.length : Int) - 1 = n by omega, ← sm_pos, hn]
  refine sm_congr fun i hi => ?_
  by_cases e : i = 0
  · subst e; simp
  · rw [if_neg e, if_pos (show 1 ≤ i by omega)]
    have e1 := rev_at (L := L) (i := n + 1 - i) (by omega)
    have e2 := rev_at (L := L) (i := n + 1 - i - 1) (by omega)
    rw [e1, e2, hn, show n + 1 - 1 - (n + 1 - i) = i - 1 by omega, show n + 1 - 1 - (n + 1 - i - 1) = i by omega]
    have hne := h.inj i (i - 1) (by omega) (by omega)
    by_cases c : L.getD i 0 < L.getD (i - 1) 0
    · rw [if_pos ⟨by omega, c⟩, if_neg (by omega)]; rfl
    · rw [if_neg (by omega), if_pos ⟨by omega, by omega⟩]; rfl
theorem itm_last {n : Nat} (hn : n ≤ 12) : invs (itm n ((fac n : Int) - 1)) n = mst n := by
  have hp := fac_pos n
  obtain ⟨_, h2, h3, _⟩ := itm_ord (n := n) (k := (fac n : Int) - 1) (by omega) (by omega) hn
  have := sum_tbl (L := itm n ((fac n : Int) - 1))
  rw [h2, h3, tk_last] at this
  exact this.symm
end MD
end Go.Proofs.Ytfbkoombkmpjkaa
