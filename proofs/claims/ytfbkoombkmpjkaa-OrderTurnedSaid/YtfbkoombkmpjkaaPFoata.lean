/- Plain law: the second order; back again. No program in sight. -/
import Derived.Test.YtfbkoombkmpjkaaPNext
import Derived.Test.YtfbkoombkmpjkaaPInv
namespace Go.Proofs.Ytfbkoombkmpjkaa
open CY PO RW MD
namespace FO
/-- What shifted does, number by number; cur is the open part. -/
def sR (p : Int → Bool) (cur : List Int) : List Int → List Int
  | [] => []
  | x :: r => if p x then x :: (cur ++ sR p [] r) else sR p (cur ++ [x]) r
/-- What back does: x begins the open part, cur is the rest of it. -/
def bR (p : Int → Bool) (x : Int) (cur : List Int) : List Int → List Int
  | [] => cur ++ [x]
  | y :: r => if p y then cur ++ x :: bR p y [] r else bR p x (cur ++ [y]) r
def bL (p : Int → Bool) : List Int → List Int
  | [] => []
  | x :: r => bR p x [] r
/-- The last number is one with p. -/
def lastP (p : Int → Bool) (l : List Int) : Prop := ∃ A y, l = A ++ [y] ∧ p y = true
section
variable {p : Int → Bool}
theorem lastP_cons {x : Int} {r : List Int} (h : lastP p (x :: r)) (hr : r ≠ []) : lastP p r := by
  obtain ⟨A, y, e, hy⟩ := h
  cases A with
  | nil => simp at e; exact absurd e.2 hr
  | cons z A => simp at e; exact ⟨A, y, e.2, hy⟩
theorem lastP_one {x : Int} (h : lastP p [x]) : p x = true := by
  obtain ⟨A, y, e, hy⟩ := h
  cases A with
  | nil => simp at e; rw [e]; exact hy
  | cons z A => simp at e
theorem sR_perm : ∀ {l cur : List Int}, lastP p l → (sR p cur l).Perm (cur ++ l)
  | [], cur, h => by obtain ⟨A, y, e, _⟩ := h; simp at e
  | x :: r, cur, h => by
    simp only [sR]
    by_cases hx : p x = true
    · rw [if_pos hx]
      by_cases hr : r = []
      · subst hr
        simp only [sR, List.append_nil]
        exact (List.perm_append_singleton x cur).symm
      · have ih := sR_perm (l := r) (cur := []) (lastP_cons h hr)
        exact (List.Perm.cons x (ih.append_left cur)).trans List.perm_middle.symm
    · rw [if_neg hx]
      have hr : r ≠ [] := fun e => by subst e; exact hx (lastP_one h)
      have ih := sR_perm (l := r) (cur := cur ++ [x]) (lastP_cons h hr)
      simpa using ih
theorem sR_head : ∀ {l cur : List Int}, lastP p l → ∃ y r, sR p cur l = y :: r ∧ p y = true
  | [], cur, h => by obtain ⟨A, y, e, _⟩ := h; simp at e
  | x :: r, cur, h => by
    simp only [sR]
    by_cases hx : p x = true
    · rw [if_pos hx]; exact ⟨x, _, rfl, hx⟩
    · rw [if_neg hx]
      have hr : r ≠ [] := fun e => by subst e; exact hx (lastP_one h)
      exact sR_head (lastP_cons h hr)
theorem bR_skip {x : Int} : ∀ {c cur s : List Int}, (∀ z ∈ c, p z = false) → bR p x cur (c ++ s) = bR p x (cur ++ c) s
  | [], cur, s, _ => by simp
  | z :: c, cur, s, h => by
    have hz := h z (by simp)
    simp only [List.cons_append, bR]
    rw [if_neg (by simp [hz]), bR_skip fun y hy => h y (by simp [hy])]
    simp
theorem sR_skip : ∀ {c cur s : List Int}, (∀ z ∈ c, p z = false) → sR p cur (c ++ s) = sR p (cur ++ c) s
  | [], cur, s, _ => by simp
  | z :: c, cur, s, h => by
    have hz := h z (by simp)
    simp only [List.cons_append, sR]
    rw [if_neg (by simp [hz]), sR_skip fun y hy => h y (by simp [hy])]
    simp
/-- back undoes shifted. -/
theorem bL_sR : ∀ {l cur : List Int}, (∀ z ∈ cur, p z = false) → lastP p l → bL p (sR p cur l) = cur ++ l
  | [], cur, _, h => by obtain ⟨A, y, e, _⟩ := h; simp at e
  | x :: r, cur, hc, h => by
    simp only [sR]
    by_cases hx : p x = true
    · rw [if_pos hx]
      simp only [bL]
      rw [bR_skip hc, List.nil_append]
      by_cases hr : r = []
      · subst hr; simp [sR, bR]
      · have hl := lastP_cons h hr
        have ih := bL_sR (l := r) (cur := []) (by simp) hl
        obtain ⟨y, s, e, hy⟩ := sR_head (cur := []) hl
        rw [e] at ih ⊢
        simp only [bR, bL] at ih ⊢
        rw [if_pos hy, ih]; simp
    · rw [if_neg hx]
      have hr : r ≠ [] := fun e => by subst e; exact hx (lastP_one h)
      have hx' : p x = false := by simpa using hx
      rw [bL_sR (l := r) (cur := cur ++ [x]) (fun z hz => ?_) (lastP_cons h hr)]
      · simp
      · rcases List.mem_append.1 hz with h1 | h1
        · exact hc z h1
        · simp at h1; subst h1; exact hx'
/-- shifted undoes back. -/
theorem sR_bR : ∀ {r : List Int} {x : Int} {cur : List Int}, p x = true → (∀ z ∈ cur, p z = false) → sR p [] (bR p x cur r) = x :: (cur ++ r)
  | [], x, cur, hx, hc => by
    simp only [bR]
    rw [sR_skip hc]
    simp [sR, hx]
  | y :: r, x, cur, hx, hc => by
    simp only [bR]
    by_cases hy : p y = true
    · rw [if_pos hy, sR_skip hc]
      simp only [List.nil_append, sR]
      rw [if_pos hx, sR_bR hy (by simp)]
      simp
    · rw [if_neg hy]
      have hy' : p y = false := by simpa using hy
      rw [sR_bR hx fun z hz => ?_]
      · simp
      · rcases List.mem_append.1 hz with h1 | h1
        · exact hc z h1
        · simp at h1; subst h1; exact hy'
theorem bR_last : ∀ {r : List Int} {x : Int} {cur : List Int}, p x = true → lastP p (bR p x cur r)
  | [], x, cur, hx => ⟨cur, x, rfl, hx⟩
  | y :: r, x, cur, hx => by
    simp only [bR]
    by_cases hy : p y = true
    · rw [if_pos hy]
      obtain ⟨A, z, e, hz⟩ := bR_last (r := r) (x := y) (cur := []) hy
      exact ⟨cur ++ x :: A, z, by rw [e]; simp, hz⟩
    · rw [if_neg hy]; exact bR_last hx
/-- The inversions between two lists. -/
def crs (A B : List Int) : Int := sumI (A.map fun z => (low z B : Int))
theorem inv_append : ∀ {A B : List Int}, sumI (tb (A ++ B)) = sumI (tb A) + sumI (tb B) + crs A B
  | [], B => by simp [crs, tb, sumI]
  | x :: A, B => by
    have ih := inv_append (A := A) (B := B)
    simp only [List.cons_append, tb, sumI, crs, List.map_cons] at ih ⊢
    rw [ih, low_append]; push_cast; omega
theorem crs_perm {A B B' : List Int} (h : B.Perm B') : crs A B = crs A B' := by
  unfold crs
  congr 1
  exact List.map_congr_left fun z _ => by rw [low_perm h]
theorem crs_cons {x : Int} {B : List Int} : ∀ {A : List Int}, crs A (x :: B) = high x A + crs A B
  | [] => by simp [crs, sumI, high]
  | z :: A => by
    have ih := crs_cons (x := x) (B := B) (A := A)
    unfold crs high low at *
    simp only [List.map_cons, sumI, List.countP_cons] at ih ⊢
    rw [ih]
    by_cases c : x < z
    · simp only [c, decide_true, if_true]; push_cast; omega
    · simp only [c, decide_false, Bool.false_eq_true, if_false]; push_cast; omega
def cntF (p : Int → Bool) (l : List Int) : Nat := l.countP fun x => !p x
theorem cntF_cur {cur : List Int} (h : ∀ z ∈ cur, p z = false) : cntF p cur = cur.length := by
  unfold cntF; rw [List.countP_eq_length]; intro z hz; simp [h z hz]
/-- How the inversions change, where the ends of the parts are on the side s (1: greater). -/
theorem sR_inv {s : Int} (hlow : ∀ (cur : List Int) (x : Int), p x = true → (∀ z ∈ cur, p z = false) → (low x cur : Int) - high x cur = s * cur.length) :
    ∀ {l cur : List Int}, (∀ z ∈ cur, p z = false) → lastP p l → sumI (tb (sR p cur l)) = sumI (tb (cur ++ l)) + s * cntF p (cur ++ l)
  | [], cur, _, h => by obtain ⟨A, y, e, _⟩ := h; simp at e
  | x :: r, cur, hc, h => by
    simp only [sR]
    by_cases hx : p x = true
    · rw [if_pos hx]
      have hS : (sR p [] r).Perm r ∧ sumI (tb (sR p [] r)) = sumI (tb r) + s * cntF p r := by
        by_cases hr : r = []
        · subst hr; simp [sR, tb, sumI, cntF]
        · have hl := lastP_cons h hr
          have := sR_inv hlow (l := r) (cur := []) (by simp) hl
          exact ⟨by simpa using sR_perm (cur := []) hl, by simpa using this⟩
      have h1 : sumI (tb (x :: (cur ++ sR p [] r))) = low x (cur ++ sR p [] r) + sumI (tb (cur ++ sR p [] r)) := rfl
      have h2 : sumI (tb (x :: r)) = low x r + sumI (tb r) := rfl
      have h3 := hlow cur x hx hc
      rw [h1, inv_append, inv_append, crs_perm hS.1, crs_cons, h2, hS.2, low_append, low_perm hS.1]
      have e1 : cntF p (cur ++ x :: r) = cur.length + cntF p r := by
        have := cntF_cur hc
        unfold cntF at *
        rw [List.countP_append, this, List.countP_cons]; simp [hx]
      rw [e1]
      push_cast
      rw [Int.mul_add]
      omega
    · rw [if_neg hx]
      have hx' : p x = false := by simpa using hx
      have hr : r ≠ [] := fun e => by subst e; exact hx (lastP_one h)
      have := sR_inv hlow (l := r) (cur := cur ++ [x]) (fun z hz => ?_) (lastP_cons h hr)
      · simpa using this
      · rcases List.mem_append.1 hz with h1 | h1
        · exact hc z h1
        · simp at h1; subst h1; exact hx'
/-- The order of two neighbouring numbers does not change. -/
theorem sR_filter {q : Int → Bool} (hq : ∀ x z, p x = true → p z = false → q x = true → q z = true → False) : ∀ {l cur : List Int}, (∀ z ∈ cur, p z = false) → lastP p l → (sR p cur l).filter q = (cur ++ l).filter q
  | [], cur, _, h => by obtain ⟨A, y, e, _⟩ := h; simp at e
  | x :: r, cur, hc, h => by
    simp only [sR]
    by_cases hx : p x = true
    · rw [if_pos hx]
      have hS : (sR p [] r).filter q = r.filter q := by
        by_cases hr : r = []
        · subst hr; rfl
        · simpa using sR_filter hq (l := r) (cur := []) (by simp) (lastP_cons h hr)
      rw [List.filter_cons, List.filter_append, List.filter_append, hS, List.filter_cons]
      by_cases c : q x = true
      · have hn : cur.filter q = [] := by
          rw [List.filter_eq_nil_iff]
          intro z hz hqz
          exact hq x z hx (hc z hz) c hqz
        rw [hn]; simp
      · simp [c]
    · rw [if_neg hx]
      have hx' : p x = false := by simpa using hx
      have hr : r ≠ [] := fun e => by subst e; exact hx (lastP_one h)
      have := sR_filter hq (l := r) (cur := cur ++ [x]) (fun z hz => ?_) (lastP_cons h hr)
      · simpa using this
      · rcases List.mem_append.1 hz with h1 | h1
        · exact hc z h1
        · simp at h1; subst h1; exact hx'
end
end FO
end Go.Proofs.Ytfbkoombkmpjkaa
