/- Plain law: an order and its table; the order with a number. No program in sight. -/
import Derived.Test.YtfbkoombkmpjkaaPTab
namespace Go.Proofs.Ytfbkoombkmpjkaa
open CY PO RW
namespace MD
/-- How many numbers of a list are smaller. -/
def low (x : Int) (l : List Int) : Nat := l.countP fun y => decide (y < x)
/-- The table, from the front. -/
def tb : List Int → List Int
  | [] => []
  | x :: r => (low x r : Int) :: tb r
/-- The order with a table, out of what is left. -/
def mk : List Int → List Int → List Int
  | [], _ => []
  | a :: t, l => l.getD a.toNat 0 :: mk t (l.eraseIdx a.toNat)
def okT : List Int → Prop
  | [] => True
  | a :: t => (0 ≤ a ∧ a ≤ t.length) ∧ okT t
def iota (n : Nat) : List Int := (List.range n).map fun (i : Nat) => (i : Int) + 1
abbrev Asc (l : List Int) : Prop := l.Pairwise (· < ·)
theorem iota_len {n : Nat} : (iota n).length = n := by simp [iota]
theorem iota_asc {n : Nat} : Asc (iota n) := by
  unfold iota Asc
  rw [List.pairwise_map]
  exact List.pairwise_lt_range.imp fun h => by omega
theorem low_all {x : Int} {l : List Int} (h : ∀ y ∈ l, y < x) : low x l = l.length := by
  unfold low; rw [List.countP_eq_length]; intro y hy; simpa using h y hy
theorem low_none {x : Int} {l : List Int} (h : ∀ y ∈ l, x ≤ y) : low x l = 0 := by
  unfold low; rw [List.countP_eq_zero]; intro y hy; have := h y hy; simp; omega
theorem low_append {x : Int} {a b : List Int} : low x (a ++ b) = low x a + low x b := List.countP_append
theorem low_perm {x : Int} {a b : List Int} (h : a.Perm b) : low x a = low x b := h.countP_eq _
theorem asc_split {a b : List Int} {x : Int} (h : Asc (a ++ x :: b)) : (∀ y ∈ a, y < x) ∧ (∀ y ∈ b, x < y) ∧ Asc (a ++ b) := by
  rw [Asc, List.pairwise_append] at h
  obtain ⟨h1, h2, h3⟩ := h
  rw [List.pairwise_cons] at h2
  refine ⟨fun y hy => h3 y hy x (by simp), h2.1, ?_⟩
  rw [Asc, List.pairwise_append]
  exact ⟨h1, h2.2, fun p hp q hq => h3 p hp q (by simp [hq])⟩
theorem low_mid {a b : List Int} {x : Int} (h : Asc (a ++ x :: b)) : low x (a ++ b) = a.length := by
  obtain ⟨h1, h2, _⟩ := asc_split h
  rw [low_append, low_all h1, low_none fun y hy => Int.le_of_lt (h2 y hy)]; rfl
theorem getD_mid {a b : List Int} {x : Int} : (a ++ x :: b).getD a.length 0 = x := by simp [List.getD]
theorem erase_mid {a b : List Int} {x : Int} : (a ++ x :: b).eraseIdx a.length = a ++ b := by
  rw [List.eraseIdx_append_of_length_le (by omega)]; simp
theorem split_at {l : List Int} {k : Nat} (h : k < l.length) : l = l.take k ++ l.getD k 0 :: l.drop (k + 1) := by
  rw [show l.getD k 0 = l[k] by simp [List.getD, h]]
  simp
/-- A table that is one gives an order whose table it is. -/
theorem mk_tb : ∀ {t l : List Int}, okT t → Asc l → l.length = t.length → (mk t l).Perm l ∧ tb (mk t l) = t
  | [], l, _, _, hl => by
    have : l = [] := List.eq_nil_of_length_eq_zero hl
    subst this
    exact ⟨List.Perm.refl _, rfl⟩
  | a :: t, l, ⟨⟨h0, h1⟩, ht⟩, hs, hl => by
    simp only [List.length_cons] at hl
    have hk : a.toNat < l.length := by omega
    have hsp := split_at hk
    have hkl : (l.take a.toNat).length = a.toNat := by simp; omega
    generalize hA : l.take a.toNat = A at *
    generalize hB : l.drop (a.toNat + 1) = B at *
    generalize hx : l.getD a.toNat 0 = x at *
    have he : l.eraseIdx a.toNat = A ++ B := by rw [hsp, ← hkl, erase_mid]
    rw [hsp] at hs
    have hlow := low_mid hs
    obtain ⟨_, _, hAB⟩ := asc_split hs
    have hlen : (A ++ B).length = t.length := by
      have := congrArg List.length hsp
      simp only [List.length_append, List.length_cons] at this ⊢
      omega
    have ih := mk_tb ht hAB hlen
    simp only [mk]
    rw [hx, he]
    constructor
    · refine List.Perm.trans (ih.1.cons x) ?_
      rw [hsp]
      exact List.perm_middle.symm
    · simp only [tb]
      rw [low_perm ih.1, hlow, ih.2, hkl]
      congr 1; omega
/-- An order comes back out of its table. -/
theorem mk_of_tb : ∀ {L l : List Int}, Asc l → L.Perm l → mk (tb L) l = L ∧ okT (tb L)
  | [], l, _, _ => ⟨rfl, trivial⟩
  | x :: r, l, hs, hp => by
    have hx : x ∈ l := hp.subset (by simp)
    obtain ⟨A, B, rfl⟩ := List.append_of_mem hx
    have hlow := low_mid hs
    obtain ⟨_, _, hAB⟩ := asc_split hs
    have hr : r.Perm (A ++ B) := by
      have h2 := hp.trans List.perm_middle
      exact List.Perm.cons_inv h2
    have ih := mk_of_tb hAB hr
    have hl : low x r = A.length := by rw [low_perm hr, hlow]
    simp only [tb, mk]
    rw [hl, Int.toNat_natCast, getD_mid, erase_mid, ih.1]
    refine ⟨rfl, ⟨⟨by omega, ?_⟩, ih.2⟩⟩
    have h1 : (tb r).length = r.length := by
      have : ∀ l : List Int, (tb l).length = l.length := by
        intro l; induction l with
        | nil => rfl
        | cons y s ihs => simp [tb, ihs]
      exact this r
    rw [h1, hr.length_eq]
    simp; omega
theorem tb_len : ∀ {l : List Int}, (tb l).length = l.length
  | [] => rfl
  | y :: s => by simp [tb, tb_len]
theorem mk_len : ∀ {t l : List Int}, (mk t l).length = t.length
  | [], _ => rfl
  | a :: t, l => by simp [mk, mk_len]
/-- An order holds the numbers from 1 on. -/
theorem ok_perm {L : List Int} (h : Ok L) : L.Perm (iota L.length) := by
  have hn : L.Nodup := by
    rw [List.nodup_iff_pairwise_ne, List.pairwise_iff_getElem]
    intro i j hi hj hij e
    have := h.inj j i hij hj
    simp only [List.getD, List.getElem?_eq_getElem hi, List.getElem?_eq_getElem hj, Option.getD_some] at this
    exact this e
  have hn2 : (iota L.length).Nodup := by
    have := iota_asc (n := L.length)
    rw [List.nodup_iff_pairwise_ne]
    exact this.imp fun h => by omega
  refine (List.perm_ext_iff_of_nodup hn hn2).2 fun x => ?_
  constructor
  · intro hx
    obtain ⟨i, hi, rfl⟩ := List.getElem_of_mem hx
    have := h.rng i hi
    simp only [List.getD, List.getElem?_eq_getElem hi, Option.getD_some] at this
    unfold iota
    exact List.mem_map.2 ⟨(L[i] - 1).toNat, by simp; omega, by omega⟩
  · intro hx
    obtain ⟨i, hi, rfl⟩ := List.mem_map.1 hx
    simp at hi
    obtain ⟨j, hj, hji⟩ := surj h hi
    have := (h.nxt_lt hj).2
    rw [hji] at this
    rw [this]
    simp [List.getD, hj]
theorem perm_ok {L : List Int} (h : L.Perm (iota L.length)) : Ok L where
  rng i hi := by
    have h1 : L[i] ∈ iota L.length := h.subset (List.getElem_mem hi)
    obtain ⟨j, hj, hj2⟩ := List.mem_map.1 h1
    simp at hj
    simp only [List.getD, List.getElem?_eq_getElem hi, Option.getD_some]
    omega
  inj i k hki hi e := by
    have hn2 : (iota L.length).Nodup := by
      have := iota_asc (n := L.length)
      rw [List.nodup_iff_pairwise_ne]
      exact this.imp fun h => by omega
    have hn : L.Nodup := h.nodup_iff.2 hn2
    rw [List.nodup_iff_pairwise_ne, List.pairwise_iff_getElem] at hn
    have hk : k < L.length := by omega
    simp only [List.getD, List.getElem?_eq_getElem hi, List.getElem?_eq_getElem hk, Option.getD_some] at e
    exact hn k i hk hi hki e
theorem cntB_cons {x : Int} {r : List Int} {i : Nat} : ∀ {n : Nat}, cntB (x :: r) (i + 1) (n + 1) = cntB r i n
  | 0 => by simp [cntB]
  | n + 1 => by
    show cntB (x :: r) (i + 1) (n + 1) + _ = cntB r i n + _
    rw [cntB_cons]
    congr 1
    by_cases c : i < n ∧ r.getD n 0 < r.getD i 0
    · rw [if_pos c, if_pos ⟨by omega, by simpa [List.getD] using c.2⟩]
    · rw [if_neg c, if_neg]
      intro h
      exact c ⟨by omega, by simpa [List.getD] using h.2⟩
theorem cntB_head {x : Int} {r : List Int} : ∀ {n : Nat}, n ≤ r.length → cntB (x :: r) 0 (n + 1) = low x (r.take n)
  | 0, _ => by simp [cntB, low]
  | n + 1, h => by
    show cntB (x :: r) 0 (n + 1) + _ = _
    rw [cntB_head (by omega), take_snocI (by omega), low_append]
    have e : (x :: r).getD (n + 1) 0 = r.getD n 0 := by simp [List.getD]
    have e0 : (x :: r).getD 0 0 = x := rfl
    rw [e, e0]
    unfold low
    by_cases c : r.getD n 0 < x
    · rw [if_pos ⟨by omega, c⟩]; simp [-List.getD_eq_getElem?_getD, c]
    · rw [if_neg fun h => c h.2]; simp [-List.getD_eq_getElem?_getD, c]
theorem tbl_tb : ∀ {L : List Int}, tbl L = tb L
  | [] => rfl
  | x :: r => by
    have ih := tbl_tb (L := r)
    refine list_ext (by rw [tbl_len, tb_len]) fun i hi => ?_
    rw [tbl_len] at hi
    rw [tbl_at hi]
    cases i with
    | zero =>
      show cntB (x :: r) 0 (r.length + 1) = _
      rw [cntB_head (Nat.le_refl _), List.take_length]; rfl
    | succ i =>
      show cntB (x :: r) (i + 1) (r.length + 1) = (tb r).getD i 0
      rw [cntB_cons, ← ih, tbl_at (by simpa using hi)]
end MD
end Go.Proofs.Ytfbkoombkmpjkaa
