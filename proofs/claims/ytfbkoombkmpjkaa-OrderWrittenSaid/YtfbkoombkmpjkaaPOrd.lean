/- Plain: orders and their numbers. No program in sight. -/
import Derived.Test.YtfbkoombkmpjkaaPCyc
namespace Go.Proofs.Ytfbkoombkmpjkaa
open CY
theorem take_getD {L : List Int} {k i : Nat} (h : i < (L.take k).length) : (L.take k).getD i 0 = L.getD i 0 := by
  have : i < k := by simp at h; omega
  simp [List.getD, this]
/-- An order, as the document says it. -/
def IsOrd (L : List Int) : Prop := L.length ≤ 12 ∧ ∀ i, i < L.length → (1 ≤ L.getD i 0 ∧ L.getD i 0 ≤ L.length) ∧ ∀ k, k < i → L.getD k 0 ≠ L.getD i 0
instance (L : List Int) : Decidable (IsOrd L) := by unfold IsOrd; infer_instance
/-- How many of the numbers from place i + 1 to place n - 1 are smaller than the one at place i. -/
def cntB (L : List Int) (i : Nat) : Nat → Int
  | 0 => 0
  | n + 1 => cntB L i n + if i < n ∧ L.getD n 0 < L.getD i 0 then 1 else 0
theorem cntB_bnd {L : List Int} {i : Nat} : ∀ {n : Nat}, 0 ≤ cntB L i n ∧ cntB L i n ≤ n
  | 0 => by simp [cntB]
  | n + 1 => by
    have := cntB_bnd (L := L) (i := i) (n := n)
    simp only [cntB]
    split <;> omega
theorem cntB_zero {L : List Int} {i : Nat} : ∀ {n : Nat}, n ≤ i → cntB L i n = 0
  | 0, _ => rfl
  | n + 1, h => by
    simp only [cntB]
    rw [cntB_zero (by omega), if_neg (by omega)]
    rfl
theorem rep0 {n i : Nat} : (List.replicate n (0 : Int)).getD i 0 = 0 := by
  simp only [List.getD, List.getElem?_replicate]; split <;> rfl
theorem getD_set {α : Type} {L : List α} {i j : Nat} {a d : α} (hi : i < L.length) : (L.set i a).getD j d = if j = i then a else L.getD j d := by
  simp only [List.getD, List.getElem?_set]
  by_cases e : i = j
  · subst e; simp [hi]
  · simp [e, Ne.symm e]
/-- The inversions that begin at the first k places. -/
def invs (L : List Int) : Nat → Int
  | 0 => 0
  | k + 1 => invs L k + cntB L k L.length
theorem invs_bnd {L : List Int} : ∀ {k : Nat}, 0 ≤ invs L k ∧ invs L k ≤ k * L.length
  | 0 => by simp [invs]
  | k + 1 => by
    have h1 := invs_bnd (L := L) (k := k)
    have h2 := cntB_bnd (L := L) (i := k) (n := L.length)
    simp only [invs]
    have : ((k + 1 : Nat) : Int) * L.length = k * L.length + L.length := by
      push_cast; rw [Int.add_mul, Int.one_mul]
    omega
theorem invs_all {L : List Int} : ∀ {j : Nat}, invs L (L.length + j) = invs L L.length
  | 0 => rfl
  | j + 1 => by
    show invs L (L.length + j) + cntB L (L.length + j) L.length = _
    rw [invs_all, cntB_zero (by omega)]; omega
/-- The descents before place n. -/
def dsc (L : List Int) : Nat → List Int
  | 0 => []
  | n + 1 => dsc L n ++ if 1 ≤ n ∧ L.getD n 0 < L.getD (n - 1) 0 then [(n : Int)] else []
def sumI : List Int → Int
  | [] => 0
  | x :: r => x + sumI r
theorem sumI_snoc {l : List Int} {x : Int} : sumI (l ++ [x]) = sumI l + x := by
  induction l with
  | nil => simp [sumI]
  | cons y r ih => simp [sumI, ih]; omega
theorem dsc_len {L : List Int} : ∀ {n : Nat}, (dsc L n).length ≤ n ∧ ∀ x ∈ dsc L n, 0 ≤ x ∧ x < n
  | 0 => by simp [dsc]
  | n + 1 => by
    obtain ⟨h1, h2⟩ := dsc_len (L := L) (n := n)
    simp only [dsc]
    split
    · refine ⟨by simp; omega, fun x hx => ?_⟩
      rcases List.mem_append.1 hx with h | h
      · have := h2 x h; omega
      · simp at h; omega
    · refine ⟨by simp; omega, fun x hx => ?_⟩
      simp at hx
      have := h2 x hx; omega
def exc (L : List Int) : Nat → Int
  | 0 => 0
  | n + 1 => exc L n + if L.getD n 0 > (n : Int) + 1 then 1 else 0
theorem exc_bnd {L : List Int} : ∀ {n : Nat}, 0 ≤ exc L n ∧ exc L n ≤ n
  | 0 => by simp [exc]
  | n + 1 => by
    have := exc_bnd (L := L) (n := n)
    simp only [exc]
    split <;> omega
/-- The greatest number before place n, and the records' places. -/
def mostB (L : List Int) : Nat → Int
  | 0 => 0
  | n + 1 => if L.getD n 0 > mostB L n then L.getD n 0 else mostB L n
def recs (L : List Int) : Nat → List Int
  | 0 => []
  | n + 1 => recs L n ++ if L.getD n 0 > mostB L n then [(n : Int)] else []
theorem recs_len {L : List Int} : ∀ {n : Nat}, (recs L n).length ≤ n
  | 0 => by simp [recs]
  | n + 1 => by
    have := recs_len (L := L) (n := n)
    simp only [recs]
    split <;> simp <;> omega
theorem take_snocI {R : List Int} {i : Nat} (h : i < R.length) : R.take (i + 1) = R.take i ++ [R.getD i 0] := by
  rw [List.take_succ_eq_append_getElem h, show R.getD i 0 = R[i] by simp [List.getD, h]]
theorem sumI_bnd {l : List Int} {b : Int} (h : ∀ x ∈ l, 0 ≤ x ∧ x ≤ b) : 0 ≤ sumI l ∧ sumI l ≤ b * l.length := by
  induction l with
  | nil => simp [sumI]
  | cons y r ih =>
    have h1 := h y (by simp)
    have h2 := ih fun x hx => h x (by simp [hx])
    simp only [sumI, List.length_cons]
    push_cast
    rw [Int.mul_add, Int.mul_one]
    omega
theorem IsOrd.ok {L : List Int} (h : IsOrd L) : Ok L := ⟨fun i hi => (h.2 i hi).1, fun i k hk hi => (h.2 i hi).2 k hk⟩
def lead (L : List Int) (i m : Nat) : List Int := (List.range m).map fun j => (it L i j : Int) + 1
theorem lead_snoc {L : List Int} {i m : Nat} : lead L i (m + 1) = lead L i m ++ [(it L i m : Int) + 1] := by
  unfold lead; rw [List.range_succ, List.map_append]; rfl
theorem lead_len {L : List Int} {i m : Nat} : (lead L i m).length = m := by simp [lead]
theorem cycs_len {L : List Int} : ∀ {n : Nat}, (cycs L n).length ≤ n
  | 0 => by simp [cycs]
  | n + 1 => by
    have := cycs_len (L := L) (n := n)
    simp only [cycs]
    split <;> simp <;> omega
/-- The six numbers of an order. -/
def nums (L : List Int) : List Int := [invs L L.length, sumI (dsc L L.length), (dsc L L.length).length, exc L L.length, (cycs L L.length).length, (recs L L.length).length]
/-- What shifted has written after k numbers, and where the open part begins. -/
def shf (L : List Int) (a : Int) (g : Bool) : Nat → List Int × Nat
  | 0 => ([], 0)
  | k + 1 => if decide (a < L.getD k 0) = g then ((shf L a g k).1 ++ [L.getD k 0] ++ (L.drop (shf L a g k).2).take (k - (shf L a g k).2), k + 1) else shf L a g k
theorem shf_bnd {L : List Int} {a : Int} {g : Bool} : ∀ {k : Nat}, k ≤ L.length → (shf L a g k).2 ≤ k ∧ (shf L a g k).1.length = (shf L a g k).2
  | 0, _ => by simp [shf]
  | k + 1, h => by
    have := shf_bnd (L := L) (a := a) (g := g) (k := k) (by omega)
    simp only [shf]
    split
    · simp; omega
    · omega
/-- One number more in the second order. -/
def secStep (l : List Int) (a : Int) : List Int := (if l.length = 0 then l else (shf l a (decide (a < l.getD (l.length - 1) 0)) l.length).1) ++ [a]
def sec (L : List Int) : Nat → List Int
  | 0 => []
  | k + 1 => secStep (sec L k) (L.getD k 0)
theorem shf_all {l : List Int} {a : Int} (h : 0 < l.length) : (shf l a (decide (a < l.getD (l.length - 1) 0)) l.length).1.length = l.length := by
  rw [(shf_bnd (Nat.le_refl _)).2]
  obtain ⟨m, hm⟩ : ∃ m, l.length = m + 1 := ⟨l.length - 1, by omega⟩
  rw [hm]
  simp [shf]
theorem sec_len {L : List Int} : ∀ {k : Nat}, (sec L k).length = k
  | 0 => rfl
  | k + 1 => by
    have := sec_len (L := L) (k := k)
    simp only [sec, secStep]
    split
    · simp; omega
    · rw [List.length_append, shf_all (by omega)]; simp; omega
end Go.Proofs.Ytfbkoombkmpjkaa
