/- Plain law: level tables: a whole matching, and what is left when it is taken away. -/
import Derived.Test.YtdpckinhoooigaaPLay
import Derived.Test.YtdpckinhoooigaaPTri
namespace Go.Proofs.Ytdpckinhoooigaa
open Gv PM MM
theorem sumN_L (n : Nat) (f : Nat → Int) : sumN n f = sumL (List.range n) f := by
  induction n with
  | zero => rfl
  | succ n ih =>
    rw [List.range_succ]
    simp only [sumN]
    rw [ih]
    unfold sumL
    rw [List.map_append, List.sum_append]
    simp
theorem sumL_nonneg {U : List Nat} {f : Nat → Int} (h : ∀ u, u ∈ U → 0 ≤ f u) : 0 ≤ sumL U f := by
  induction U with
  | nil => simp [sumL]
  | cons u U ih =>
    rw [sumL_cons]
    have := h u List.mem_cons_self
    have := ih fun u hu => h u (List.mem_cons_of_mem _ hu)
    omega
theorem sumL_filter_le {U : List Nat} {f : Nat → Int} (p : Nat → Bool) (h : ∀ u, u ∈ U → 0 ≤ f u) : sumL (U.filter p) f ≤ sumL U f := by
  induction U with
  | nil => simp [sumL]
  | cons u U ih =>
    have h1 := h u List.mem_cons_self
    have h2 := ih fun u hu => h u (List.mem_cons_of_mem _ hu)
    rw [sumL_cons]
    by_cases e : p u
    · rw [List.filter_cons_of_pos e, sumL_cons]; omega
    · rw [List.filter_cons_of_neg e]; omega
theorem sumL_const (U : List Nat) (a : Int) : sumL U (fun _ => a) = a * U.length := by
  induction U with
  | nil => simp [sumL]
  | cons u U ih => rw [sumL_cons, ih, List.length_cons]; push_cast; rw [Int.mul_add]; omega
theorem sumL_le {U : List Nat} {f g : Nat → Int} (h : ∀ u, u ∈ U → f u ≤ g u) : sumL U f ≤ sumL U g := by
  induction U with
  | nil => exact Int.le_refl _
  | cons u U ih =>
    rw [sumL_cons, sumL_cons]
    have := h u List.mem_cons_self
    have := ih fun u hu => h u (List.mem_cons_of_mem _ hu)
    omega
theorem sumL_drop {U : List Nat} {f : Nat → Int} (p : Nat → Bool) (h : ∀ u, u ∈ U → p u = false → f u = 0) : sumL U f = sumL (U.filter p) f := by
  induction U with
  | nil => rfl
  | cons u U ih =>
    have h2 := ih fun u hu => h u (List.mem_cons_of_mem _ hu)
    rw [sumL_cons, h2]
    by_cases e : p u
    · rw [List.filter_cons_of_pos e, sumL_cons]
    · have := h u List.mem_cons_self (by simpa using e)
      rw [List.filter_cons_of_neg e, this]; omega
/-- Level at lv. -/
def LevAt (M : List (List Int)) (lv : Int) : Prop := ∀ i, i < M.length → rsum M i M.length = lv ∧ csum M i M.length = lv
open Classical in
theorem lev_full {M : List (List Int)} (hM : IsTab M) {lv : Int} (hl : LevAt M lv) (hlv : 0 < lv) {R C : Nat → Int} (h : Greatest M.length (ent M) R C) : ∀ r, r < M.length → 0 ≤ C r := by
  intro r hr
  apply Int.not_lt.1
  intro hneg
  obtain ⟨S, hS, hSr⟩ := h.2 r hr hneg
  have hln : ((List.range M.length).filter (fun q => decide (S q))).Nodup := List.nodup_range.sublist List.filter_sublist
  have hlm : ∀ q, q ∈ (List.range M.length).filter (fun q => decide (S q)) ↔ q < M.length ∧ S q := fun q => by simp
  have hcn : ((List.range M.length).filter (fun c => decide (∃ q, q ∈ (List.range M.length).filter (fun q => decide (S q)) ∧ ent M q c ≠ 0))).Nodup := List.nodup_range.sublist List.filter_sublist
  have hf := closed_fewer h.1 hS hr hSr hneg _ hlm hln _ hcn fun c hc => by simpa using hc
  have e1 : sumL ((List.range M.length).filter (fun q => decide (S q))) (fun q => sumL (List.range M.length) (fun c => ent M q c)) = lv * ((List.range M.length).filter (fun q => decide (S q))).length := by
    rw [← sumL_const]
    apply sumL_congr
    intro q hq
    have := (hl q ((hlm q).1 hq).1).1
    unfold rsum at this
    rw [sumN_L] at this
    exact this
  rw [sumL_swap, sumL_drop (fun c => decide (∃ q, q ∈ (List.range M.length).filter (fun q => decide (S q)) ∧ ent M q c ≠ 0))] at e1
  · have e2 : sumL ((List.range M.length).filter (fun c => decide (∃ q, q ∈ (List.range M.length).filter (fun q => decide (S q)) ∧ ent M q c ≠ 0))) (fun c => sumL ((List.range M.length).filter (fun q => decide (S q))) (fun q => ent M q c)) ≤
        sumL ((List.range M.length).filter (fun c => decide (∃ q, q ∈ (List.range M.length).filter (fun q => decide (S q)) ∧ ent M q c ≠ 0))) (fun _ => lv) := sumL_le fun c hc => by
      have hc' : c < M.length := by
        have := (List.mem_filter.1 hc).1
        simpa using this
      have h1 := sumL_filter_le (U := List.range M.length) (f := fun q => ent M q c) (fun q => decide (S q)) fun q hq => (ent_ok hM (by simpa using hq) hc').1
      have h2 := (hl c hc').2
      unfold csum at h2
      rw [sumN_L] at h2
      omega
    rw [sumL_const, e1] at e2
    have : lv * ((((List.range M.length).filter (fun c => decide (∃ q, q ∈ (List.range M.length).filter (fun q => decide (S q)) ∧ ent M q c ≠ 0))).length : Nat) : Int) < lv * ((((List.range M.length).filter (fun q => decide (S q))).length : Nat) : Int) :=
      Int.mul_lt_mul_of_pos_left (by omega) hlv
    omega
  · intro c _ hp
    have hno : ¬ ∃ q, q ∈ (List.range M.length).filter (fun q => decide (S q)) ∧ ent M q c ≠ 0 := by simpa using hp
    rw [sumL_congr (g := fun _ => 0) fun q hq => Classical.byContradiction fun h0 => hno ⟨q, hq, h0⟩, sumL_zero]
theorem ent_le_rsum {M : List (List Int)} (hM : IsTab M) {r c : Nat} (hr : r < M.length) (hc : c < M.length) : ent M r c ≤ rsum M r M.length := by
  unfold rsum
  have : ∀ n, n ≤ M.length → ∀ c, c < n → ent M r c ≤ sumN n fun c => ent M r c := by
    intro n
    induction n with
    | zero => intro _ c hc; omega
    | succ n ih =>
      intro hn c hc
      simp only [sumN]
      have h6 : 0 ≤ sumN n fun c => ent M r c := sumN_nonneg fun c hc => (ent_ok hM hr (by omega)).1
      have h7 := (ent_ok hM hr (by omega : n < M.length)).1
      by_cases e : c = n
      · subst e; omega
      · have := ih (by omega) c (by omega); omega
  exact this _ (Nat.le_refl _) c hc
/-- What is left. -/
theorem lev_sub {M M' : List (List Int)} {lv a : Int} {p : Nat → Nat} (hl : LevAt M lv) (hlen : M'.length = M.length) (h1 : ∀ r, r < M.length → p r < M.length) (h2 : ∀ r r', r < r' → r' < M.length → p r ≠ p r')
    (he : ∀ r c, r < M.length → c < M.length → ent M' r c = ent M r c - if p r = c then a else 0) : LevAt M' (lv - a) := by
  intro i hi
  rw [hlen] at hi ⊢
  obtain ⟨a1, a2⟩ := hl i hi
  unfold rsum csum at *
  constructor
  · rw [sumN_update (h1 i hi) (fun c => ent M i c) (fun c => ent M' i c) fun c hc hne => by rw [he i c hi hc, if_neg (Ne.symm hne)]; omega]
    rw [he i (p i) hi (h1 i hi), if_pos rfl]
    omega
  · obtain ⟨r, hr, e⟩ := perm_surj h1 h2 hi
    rw [sumN_update hr (fun r => ent M r i) (fun r => ent M' r i) fun q hq hne => by
      rw [he q i hq hi, if_neg]
      · omega
      · intro e2
        rcases Nat.lt_trichotomy q r with h | h | h
        · exact h2 q r h hr (e2.trans e.symm)
        · exact hne h
        · exact h2 r q h hq (e.trans e2.symm)]
    rw [he r i hr hi, if_pos e]
    omega
theorem lev_zero {M : List (List Int)} (hM : IsTab M) (hl : LevAt M 0) {r c : Nat} (hr : r < M.length) (hc : c < M.length) : ent M r c = 0 := by
  have h1 := ent_le_rsum hM hr hc
  have h2 := (hl r hr).1
  have h3 := (ent_ok hM hr hc).1
  omega
theorem lsum_snoc {L : List (Int × List Int)} {x : Int × List Int} {r : Nat} {c : Int} : ∀ {k : Nat}, k ≤ L.length → lsum (L ++ [x]) r c k = lsum L r c k
  | 0, _ => rfl
  | k + 1, h => by
    simp only [lsum]
    rw [lsum_snoc (by omega), getD_snocL (by omega)]
theorem lsum_snocE {L : List (Int × List Int)} {x : Int × List Int} {r : Nat} {c : Int} : lsum (L ++ [x]) r c (L ++ [x]).length = lsum L r c L.length + if x.2.getD r 0 = c then x.1 else 0 := by
  rw [List.length_append, List.length_singleton]
  simp only [lsum]
  rw [lsum_snoc (Nat.le_refl _), getD_snocE]
end Go.Proofs.Ytdpckinhoooigaa
